/- Matching a general term to a special one: the plain form, and spec.l3Match. -/
import Derived.Test.YtnoieadimkgjcaaZRen4
import Derived.Test.YtnoieadimkgjcaaZRen1
namespace Go.Proofs.Ytnoieadimkgjcaa
open Go Go.RowKit

abbrev Known := List (Option T)
mutual
def matchT : T → T → Known → Bool × Known
  | .mk k n s ks, u, st => if k = 1 then (match st[n.toNat]? with
      | some (some t) => (eqT t u, st)
      | _ => (true, st.set n.toNat (some u)))
    else if hdEq (.mk k n s ks) u = true then matchL ks u.kids st else (false, st)
def matchL : List T → List T → Known → Bool × Known
  | [], _, st => (true, st)
  | _ :: _, [], st => (true, st)
  | t :: ts, u :: us, st => if (matchT t u st).1 = true then matchL ts us (matchT t u st).2 else (false, (matchT t u st).2)
end
theorem matchL_drop (ts us : List T) (st : Known) (j : Nat) (h : j < ts.length) (h' : j < us.length) :
    matchL (ts.drop j) (us.drop j) st = if (matchT ts[j] us[j] st).1 = true then matchL (ts.drop (j + 1)) (us.drop (j + 1)) (matchT ts[j] us[j] st).2 else (false, (matchT ts[j] us[j] st).2) := by
  rw [List.drop_eq_getElem_cons h, List.drop_eq_getElem_cons h', matchL]
/- variables within the table; kinds that are kinds -/
mutual
def okV : T → Prop
  | .mk k n _ ks => (k = 1 → 0 ≤ n ∧ n ≤ 25) ∧ okVL ks
def okVL : List T → Prop
  | [] => True
  | t :: ts => okV t ∧ okVL ts
end
theorem okVL_mem : ∀ {ts : List T}, okVL ts → ∀ t ∈ ts, okV t
  | _ :: _, h, t, ht => by
    rcases List.mem_cons.1 ht with rfl | ht
    · exact h.1
    · exact okVL_mem h.2 t ht
mutual
def okK : T → Prop
  | .mk k _ _ ks => k ≠ 0 ∧ okKL ks
def okKL : List T → Prop
  | [] => True
  | t :: ts => okK t ∧ okKL ts
end
theorem okKL_mem : ∀ {ts : List T}, okKL ts → ∀ t ∈ ts, okK t
  | _ :: _, h, t, ht => by
    rcases List.mem_cons.1 ht with rfl | ht
    · exact h.1
    · exact okKL_mem h.2 t ht
theorem ownB_v {t : T} (h : ownB t = true) : (t.kind = 1 → 0 ≤ t.n ∧ t.n ≤ 25) ∧ t.kind ≠ 0 := by
  unfold ownB at h
  refine ⟨fun hk => ?_, fun hk => ?_⟩
  · rw [if_pos hk] at h
    simp only [Bool.and_eq_true, decide_eq_true_eq] at h
    exact ⟨h.1, h.2.1⟩
  · rw [if_neg (by omega), if_neg (by omega), if_neg (by omega)] at h
    cases h
mutual
theorem shape_ok : ∀ (t : T) (d : Int), shapeT t d = true → okV t ∧ okK t
  | .mk k n s ks, d, h => by
    rw [shapeT] at h
    split at h
    · cases h
    · simp only [Bool.and_eq_true] at h
      obtain ⟨h1, h2⟩ := h
      obtain ⟨h3, h4⟩ := shapeL_ok ks (d - 1) h2
      rw [okV, okK]
      obtain ⟨h5, h6⟩ := ownB_v h1
      exact ⟨⟨h5, h3⟩, ⟨h6, h4⟩⟩
theorem shapeL_ok : ∀ (ts : List T) (d : Int), shapeL ts d = true → okVL ts ∧ okKL ts
  | [], d, h => by simp [okVL, okKL]
  | t :: ts, d, h => by
    rw [shapeL, Bool.and_eq_true] at h
    obtain ⟨h1, h2⟩ := shape_ok t d h.1
    obtain ⟨h3, h4⟩ := shapeL_ok ts d h.2
    rw [okVL, okKL]
    exact ⟨⟨h1, h3⟩, ⟨h2, h4⟩⟩
end
theorem valid_ok {t : T} (h : validB t = true) : okV t ∧ okK t := by
  rw [validB, Bool.and_eq_true] at h
  exact shape_ok t 30 h.1
def stOk (st : Known) : Prop := st.length = 26 ∧ ∀ t, some t ∈ st → okK t
theorem stOk_set {st : Known} {n : Nat} {u : T} (h : stOk st) (hu : okK u) : stOk (st.set n (some u)) := by
  refine ⟨by rw [List.length_set]; exact h.1, fun t ht => ?_⟩
  rcases List.mem_or_eq_of_mem_set ht with ht | ht
  · exact h.2 t ht
  · simp only [Option.some.injEq] at ht
    rw [ht]; exact hu
mutual
theorem match_ok : ∀ (t u : T) (st : Known), stOk st → okK u → stOk (matchT t u st).2
  | .mk k n s ks, u, st, h, hu => by
    rw [matchT]
    split
    · split
      · exact h
      · exact stOk_set h hu
    · split
      · obtain ⟨k', n', s', ks'⟩ := u
        rw [okK] at hu
        exact matchL_ok ks ks' st h hu.2
      · exact h
theorem matchL_ok : ∀ (ts us : List T) (st : Known), stOk st → okKL us → stOk (matchL ts us st).2
  | [], _, st, h, _ => by rw [matchL]; exact h
  | _ :: _, [], st, h, _ => by rw [matchL]; exact h
  | t :: ts, u :: us, st, h, hu => by
    rw [matchL]
    rw [okKL] at hu
    split
    · exact matchL_ok ts us _ (match_ok t u st h hu.1) hu.2
    · exact match_ok t u st h hu.1
end
def noCells : List Value := [.int .i64 0, .int .i64 0, .string ⟨#[]⟩, .slice none 0 0]
/- the table of spec.l3Match -/
def KnownC (S : Store) (c : Array Value) (st : Known) : Prop := c.size = 104 ∧ ∀ i (h : i < st.length), (st[i] = none → cellsAt c (i * 4) 4 = noCells) ∧ (∀ t, st[i] = some t → RdT S (cellsAt c (i * 4) 4) t)
theorem KnownC.set {S : Store} {c : Array Value} {st : Known} (h : KnownC S c st) {n : Nat} (hn : n < 26) {cs : List Value} {u : T} (hu : RdT S cs u) : KnownC S (putCells c (n * 4) cs) (st.set n (some u)) := by
  have hlc := hu.length
  have hs : (putCells c (n * 4) cs).size = 104 := by rw [putCells_size _ _ _ (by rw [h.1]; omega)]; exact h.1
  refine ⟨hs, fun i hi => ?_⟩
  rw [List.length_set] at hi
  by_cases e : n = i
  · subst e
    rw [List.getElem_set_self]
    refine ⟨fun h => (by cases h), fun t ht => ?_⟩
    simp only [Option.some.injEq] at ht
    subst ht
    have := cellsAt_put_self (c := c) (o := n * 4) (vs := cs) (by rw [h.1]; omega)
    rw [hlc] at this
    rw [this]
    exact hu
  · rw [List.getElem_set_ne e, cellsAt_put_ne (by rw [h.1]; omega) (by omega)]
    exact h.2 i hi
section
attribute [local irreducible] Run CondV GuardV LoadV
abbrev kv0 (kb : Nat) : Value := .slice (some ⟨kb, 0, none⟩) 26 26
theorem l3Match_calls : ∀ (t u : T) (S : Store) (cs ds : List Value) (kb : Nat) (kc : Array Value) (st : Known), RdT S cs t → RdT S ds u → okV t → okK u → stOk st → KnownC S kc st →
    Tri Try.prog n_s_l3Match [.agg cs.toArray, .agg ds.toArray, kv0 kb] [.blk kb (.cells kc t_iTerm)] S fun r I' S' => S' = S ∧ r = .bool (matchT t u st).1 ∧ ∃ kc', I' = [.blk kb (.cells kc' t_iTerm)] ∧ KnownC S kc' (matchT t u st).2 := by
  refine T.ind fun k n s ks ih u S cs ds kb kc st h h' hv hu hst hkc => ?_
  intro w hI
  have hds := h'
  obtain ⟨kv, rfl, _, _, _, hks⟩ := RdT.iff.1 h
  obtain ⟨kv', rfl, _, _, _, hks'⟩ := RdT.iff.1 h'
  obtain ⟨k', n', s', ks'⟩ := u
  simp only [T.name, T.kids, T.kind, T.n] at hks hks' ⊢
  have hlen := hks.le
  simp only [maxLen] at hlen
  rw [okV] at hv
  obtain ⟨hv1, hv2⟩ := hv
  have huk := hu
  rw [okK] at hu
  obtain ⟨X, hX⟩ : ∃ X, X = feet [Item.blk kb (.cells kc t_iTerm)] := ⟨_, rfl⟩
  rw [← hX] at hI ⊢
  refine calls_s_l3Match ?_
  unfold sh_s_l3Match
  refine r_box hI fun b1 w' hI => ?_
  refine r_box hI fun b2 w' hI => ?_
  have hI : Inv w X [.blk b1 (.cells #[.int .i64 k, .int .i64 n, .string s, kv] t_iTerm), .blk b2 (.cells #[.int .i64 k', .int .i64 n', .string s', kv'] t_iTerm), .blk kb (.cells kc t_iTerm)] S w' := hI.perm (by
    refine (List.perm_append_comm (l₁ := [_, _]) (l₂ := [_])).trans ?_
    exact List.Perm.refl _)
  refine r_fieldL hI 0 rfl fo_iTerm_0 sc_int rfl ?_
  refine r_eql ?_
  refine condP (fun hk1 => ?_) (fun hk1 => ?_)
  · obtain ⟨hn0, hn25⟩ := hv1 hk1
    obtain ⟨j, rfl⟩ : ∃ j : Nat, n = j := ⟨n.toNat, by omega⟩
    have hj : j < 26 := by omega
    have hjs : j < st.length := by rw [hst.1]; exact hj
    refine r_fieldL hI 0 rfl fo_iTerm_1 sc_int rfl ?_
    refine r_indexAddr sl_SiTerm hj ?_
    refine r_field fo_iTerm_0 ?_
    rw [Nat.zero_add, Nat.add_zero]
    obtain ⟨hno, hso⟩ := hkc.2 j hjs
    cases hst2 : st[j] with
    | none =>
      have hcell := hno hst2
      refine r_loadL hI 2 sc_int rfl (by have := cellsAt_get hcell 0 _ rfl; exact this) ?_
      refine r_neq ?_
      refine condV (fun hb => by simp at hb) (fun _ => ?_)
      refine r_fieldL hI 0 rfl fo_iTerm_1 sc_int rfl ?_
      refine r_loadW hI 1 ag_iTerm rfl rfl ?_
      refine r_indexAddr sl_SiTerm hj ?_
      rw [Nat.zero_add]
      refine r_storeB hI 2 rfl ag_iTerm rfl (by rw [hkc.1]; exact Nat.ble_eq_true_of_le (by omega)) hds.one fun w' hI => ?_
      have hm : matchT (.mk k j s ks) (.mk k' n' s' ks') st = (true, st.set j (some (.mk k' n' s' ks'))) := by
        rw [matchT, if_pos hk1, Int.toNat_natCast, List.getElem?_eq_getElem hjs, hst2]
      rw [hm]
      exact ⟨_, _, _, rfl, hI.pick [false, false, true], Ext.refl _ _ _, rfl, rfl, _, rfl, hkc.set hj hds⟩
    | some t0 =>
      have hR := hso t0 hst2
      have hk0 : t0.kind ≠ 0 := by
        have := hst.2 t0 (by rw [← hst2]; exact List.getElem_mem hjs)
        obtain ⟨a, b, c, d⟩ := t0
        rw [okK] at this
        exact this.1
      obtain ⟨kv0', hcell, _, _, _, _⟩ := RdT.iff.1 hR
      refine r_loadL hI 2 sc_int rfl (by have := cellsAt_get hcell 0 _ rfl; exact this) ?_
      refine r_neq ?_
      rw [decide_eq_false hk0]
      refine condV (fun _ => ?_) (fun hb => by cases hb)
      refine ⟨fun D x6 x24 x23 x22 x21 x20 x19 x18 w_ => (D 0 = true → x18 = kv0 kb) ∧ (D 1 = true → x19 = .pointer (some ⟨b1, 1, none⟩)) ∧ (D 2 = true → x20 = .int .i64 j) ∧ (D 3 = true → x21 = .pointer (some ⟨kb, j * 4, none⟩)) ∧ (D 4 = true → x22 = .agg (cellsAt kc (j * 4) 4).toArray) ∧ (D 5 = true → x23 = .agg #[.int .i64 k', .int .i64 n', .string s', kv']) ∧ (D 6 = true → x24 = .bool (eqT t0 (.mk k' n' s' ks'))) ∧ (D 7 = true → x6 = .bool (eqT t0 (.mk k' n' s' ks'))) ∧ Inv w X [.blk b1 (.cells #[.int .i64 k, .int .i64 (j : Int), .string s, kv] t_iTerm), .blk b2 (.cells #[.int .i64 k', .int .i64 n', .string s', kv'] t_iTerm), .blk kb (.cells kc t_iTerm)] S w_, ⟨fun h => Bool.noConfusion h, fun h => Bool.noConfusion h, fun h => Bool.noConfusion h, fun h => Bool.noConfusion h, fun h => Bool.noConfusion h, fun h => Bool.noConfusion h, fun h => Bool.noConfusion h, fun h => Bool.noConfusion h, hI.draw⟩, ⟨?_, ?_, ?_, ?_, ?_, ?_, ?_, ?_, trivial⟩, ?_⟩
      · intro D hD_  x6 x24 x23 x22 x21 x20 x19 x18 w_
        rintro ⟨h0_, h1_, h2_, h3_, h4_, h5_, h6_, h7_, hI⟩
        exact ⟨fun _ => rfl, h1_, h2_, h3_, h4_, h5_, h6_, h7_, hI⟩
      · intro D hD_  x6 x24 x23 x22 x21 x20 x19 x18 w_
        rintro ⟨h0_, h1_, h2_, h3_, h4_, h5_, h6_, h7_, hI⟩
        refine r_field fo_iTerm_1 ?_
        exact ⟨h0_, fun _ => rfl, h2_, h3_, h4_, h5_, h6_, h7_, hI⟩
      · intro D hD_ d1_0 x6 x24 x23 x22 x21 x20 x19 x18 w_
        rintro ⟨h0_, h1_, h2_, h3_, h4_, h5_, h6_, h7_, hI⟩
        obtain rfl := h1_ d1_0
        refine r_loadL hI 0 sc_int rfl rfl ?_
        exact ⟨h0_, h1_, fun _ => rfl, h3_, h4_, h5_, h6_, h7_, hI⟩
      · intro D hD_ d0_0 d2_1 x6 x24 x23 x22 x21 x20 x19 x18 w_
        rintro ⟨h0_, h1_, h2_, h3_, h4_, h5_, h6_, h7_, hI⟩
        obtain rfl := h0_ d0_0
        obtain rfl := h2_ d2_1
        refine r_indexAddr sl_SiTerm hj ?_; rw [Nat.zero_add]
        exact ⟨h0_, h1_, h2_, fun _ => rfl, h4_, h5_, h6_, h7_, hI⟩
      · intro D hD_ d3_0 x6 x24 x23 x22 x21 x20 x19 x18 w_
        rintro ⟨h0_, h1_, h2_, h3_, h4_, h5_, h6_, h7_, hI⟩
        obtain rfl := h3_ d3_0
        refine r_loadLA hI 2 (cellsAt kc (j * 4) 4) ag_iTerm rfl hR.length (fun i v hi => cellsAt_get rfl i v hi) ?_
        exact ⟨h0_, h1_, h2_, h3_, fun _ => rfl, h5_, h6_, h7_, hI⟩
      · intro D hD_  x6 x24 x23 x22 x21 x20 x19 x18 w_
        rintro ⟨h0_, h1_, h2_, h3_, h4_, h5_, h6_, h7_, hI⟩
        refine r_loadW hI 1 ag_iTerm rfl rfl ?_
        exact ⟨h0_, h1_, h2_, h3_, h4_, fun _ => rfl, h6_, h7_, hI⟩
      · intro D hD_ d4_0 d5_1 x6 x24 x23 x22 x21 x20 x19 x18 w_
        rintro ⟨h0_, h1_, h2_, h3_, h4_, h5_, h6_, h7_, hI⟩
        obtain rfl := h4_ d4_0
        obtain rfl := h5_ d5_1
        refine Run.callPure fn_s_TermSame nm_s_TermSame hI (s_TermSame_calls t0 _ S _ _ hR hds) fun w_ hI => ?_
        exact ⟨h0_, h1_, h2_, h3_, h4_, h5_, fun _ => rfl, h7_, hI⟩
      · intro D hD_ d6_0 d6_1 d0_2 d1_3 d2_4 d3_5 d4_6 d5_7 d6_8 x6 x24 x23 x22 x21 x20 x19 x18 w_
        rintro ⟨h0_, h1_, h2_, h3_, h4_, h5_, h6_, h7_, hI⟩
        obtain rfl := h6_ d6_0
        exact ⟨h0_, h1_, h2_, h3_, h4_, h5_, h6_, fun _ => rfl, hI⟩
      intro D d7_ d6_ d5_ d4_ d3_ d2_ d1_ d0_ x6 x24 x23 x22 x21 x20 x19 x18 w_
      rintro ⟨h0_, h1_, h2_, h3_, h4_, h5_, h6_, h7_, hI⟩
      obtain rfl := h7_ d7_
      obtain rfl := h6_ d6_
      obtain rfl := h5_ d5_
      obtain rfl := h4_ d4_
      obtain rfl := h3_ d3_
      obtain rfl := h2_ d2_
      obtain rfl := h1_ d1_
      obtain rfl := h0_ d0_
      clear h0_ h1_ h2_ h3_ h4_ h5_ h6_ h7_
      have hm : matchT (.mk k j s ks) (.mk k' n' s' ks') st = (eqT t0 (.mk k' n' s' ks'), st) := by
        rw [matchT, if_pos hk1, Int.toNat_natCast, List.getElem?_eq_getElem hjs, hst2]
      rw [hm]
      exact ⟨_, _, _, rfl, hI.pick [false, false, true], Ext.refl _ _ _, rfl, rfl, _, rfl, hkc⟩
  refine ⟨fun q w' => q = .bool (!hdEq (.mk k n s ks) (.mk k' n' s' ks')) ∧ Inv w X [.blk b1 (.cells #[.int .i64 k, .int .i64 n, .string s, kv] t_iTerm), .blk b2 (.cells #[.int .i64 k', .int .i64 n', .string s', kv'] t_iTerm), .blk kb (.cells kc t_iTerm)] S w', ?_, ?_⟩
  · refine r_fieldL hI 0 rfl fo_iTerm_0 sc_int rfl ?_
    refine r_fieldL hI 1 rfl fo_iTerm_0 sc_int rfl ?_
    refine r_neq ?_
    by_cases e1 : k = k'
    · rw [decide_eq_true e1]
      repeat (first | refine guard_true ?_ | refine guard_ne (by decide) ?_ | refine guard_undef ?_ | refine r_pickT ?_ | refine r_pickF ?_)
      refine r_fieldL hI 0 rfl fo_iTerm_1 sc_int rfl ?_
      refine r_fieldL hI 1 rfl fo_iTerm_1 sc_int rfl ?_
      refine r_neq ?_
      by_cases e2 : n = n'
      · rw [decide_eq_true e2]
        repeat (first | refine guard_true ?_ | refine guard_ne (by decide) ?_ | refine guard_undef ?_ | refine r_pickT ?_ | refine r_pickF ?_)
        refine r_fieldL hI 0 rfl fo_iTerm_2 sc_string rfl ?_
        refine r_fieldL hI 1 rfl fo_iTerm_2 sc_string rfl ?_
        refine r_sneq ?_
        by_cases e3 : s = s'
        · rw [decide_eq_true e3]
          repeat (first | refine guard_true ?_ | refine guard_ne (by decide) ?_ | refine guard_undef ?_ | refine r_pickT ?_ | refine r_pickF ?_)
          refine r_fieldL hI 0 rfl fo_iTerm_3 sc_SiTerm rfl ?_
          refine r_lenSl hks sl_SiTerm ?_
          refine r_fieldL hI 1 rfl fo_iTerm_3 sc_SiTerm rfl ?_
          refine r_lenSl hks' sl_SiTerm ?_
          refine r_neq ?_
          repeat (first | refine guard_true ?_ | refine guard_ne (by decide) ?_ | refine guard_undef ?_ | refine r_pickT ?_ | refine r_pickF ?_)
          exact ⟨by rw [hdEq_mk, decide_eq_true e1, decide_eq_true e2, decide_eq_true e3, lenEq]; rfl, hI⟩
        · rw [decide_eq_false e3]
          repeat (first | refine guard_true ?_ | refine guard_ne (by decide) ?_ | refine guard_undef ?_ | refine r_pickT ?_ | refine r_pickF ?_)
          exact ⟨by rw [hdEq_mk, decide_eq_true e1, decide_eq_true e2, decide_eq_false e3]; rfl, hI⟩
      · rw [decide_eq_false e2]
        repeat (first | refine guard_true ?_ | refine guard_ne (by decide) ?_ | refine guard_undef ?_ | refine r_pickT ?_ | refine r_pickF ?_)
        exact ⟨by rw [hdEq_mk, decide_eq_true e1, decide_eq_false e2]; rfl, hI⟩
    · rw [decide_eq_false e1]
      repeat (first | refine guard_true ?_ | refine guard_ne (by decide) ?_ | refine guard_undef ?_ | refine r_pickT ?_ | refine r_pickF ?_)
      exact ⟨by rw [hdEq_mk, decide_eq_false e1]; rfl, hI⟩

  intro q _ _ _ _ _ _ _ _ _ _ _ _ _ _ _ _ _ _ _ _ _ _ _ _ _ _ _ w'
  rintro ⟨rfl, hI⟩
  cases hd : hdEq (.mk k n s ks) (.mk k' n' s' ks')
  · refine condV (fun _ => ?_) (fun hb => by cases hb)
    have hm : matchT (.mk k n s ks) (.mk k' n' s' ks') st = (false, st) := by rw [matchT, if_neg hk1, if_neg (by rw [hd]; decide)]
    rw [hm]
    exact ⟨_, _, _, rfl, hI.pick [false, false, true], Ext.refl _ _ _, rfl, rfl, _, rfl, hkc⟩
  refine condV (fun hb => by cases hb) (fun _ => ?_)
  have hle : ks.length = ks'.length := by
    rw [hdEq_mk] at hd
    simp only [Bool.and_eq_true, decide_eq_true_eq] at hd
    exact hd.2.2.2
  have hm : matchT (.mk k n s ks) (.mk k' n' s' ks') st = matchL ks ks' st := by rw [matchT, if_neg hk1, if_pos hd]; rfl
  rw [hm]
  have hu2 := hu.2
  refine ⟨fun i w' => ∃ (j : Nat) (st' : Known) (kc' : Array Value), j ≤ ks.length ∧ i = .int .i64 j ∧ matchL (ks.drop j) (ks'.drop j) st' = matchL ks ks' st ∧ stOk st' ∧ KnownC S kc' st' ∧ Inv w X [.blk b1 (.cells #[.int .i64 k, .int .i64 n, .string s, kv] t_iTerm), .blk b2 (.cells #[.int .i64 k', .int .i64 n', .string s', kv'] t_iTerm), .blk kb (.cells kc' t_iTerm)] S w', fun i _ => ks.length - (intOf i).toNat, ⟨0, st, kc, Nat.zero_le _, rfl, rfl, hst, hkc, hI⟩, ?_⟩
  intro t5 _ _ _ _ _ _ _ _ _ _ _ _ _ _ _ _ _ _ _ _ _ w'
  rintro ⟨j, st', kc', hj, rfl, hrel, hst', hkc', hI⟩
  refine r_fieldL hI 0 rfl fo_iTerm_3 sc_SiTerm rfl ?_
  refine r_lenSl hks sl_SiTerm ?_
  refine r_lss ?_
  refine condP (fun hji => ?_) (fun hji => ?_)
  · have hj1 : j < ks.length := by omega
    have hj2 : j < ks'.length := by omega
    obtain ⟨c1, o1, cap1, a1, E1, fz1, rfl, hS1, hR1⟩ := hks.at_ hj1
    obtain ⟨c2, o2, cap2, a2, E2, fz2, rfl, hS2, hR2⟩ := hks'.at_ hj2
    rw [matchL_drop ks ks' st' j hj1 hj2] at hrel
    have hcall := ih _ (List.getElem_mem hj1) ks'[j] S _ _ kb kc' st' hR1 hR2 (okVL_mem hv2 _ (List.getElem_mem hj1)) (okKL_mem hu2 _ (List.getElem_mem hj2)) hst' hkc'
    have hsn := match_ok ks[j] ks'[j] st' hst' (okKL_mem hu2 _ (List.getElem_mem hj2))
    generalize hr : matchT ks[j] ks'[j] st' = r at hrel hcall hsn
    refine ⟨fun D x77 x76 x75 x74 x73 x72 x71 x70 x69 x68 x67 x66 x65 w_ => (D 0 = true → x65 = .pointer (some ⟨b1, 3, none⟩)) ∧ (D 1 = true → x66 = .slice (some ⟨c1, o1, none⟩) ks.length cap1) ∧ (D 2 = true → x67 = .int .i64 j) ∧ (D 3 = true → x68 = .pointer (some ⟨c1, o1 + j * 4, none⟩)) ∧ (D 4 = true → x69 = .agg (cellsAt a1 (o1 + j * 4) 4).toArray) ∧ (D 5 = true → x70 = .pointer (some ⟨b2, 3, none⟩)) ∧ (D 6 = true → x71 = .slice (some ⟨c2, o2, none⟩) ks'.length cap2) ∧ (D 7 = true → x72 = .int .i64 j) ∧ (D 8 = true → x73 = .pointer (some ⟨c2, o2 + j * 4, none⟩)) ∧ (D 9 = true → x74 = .agg (cellsAt a2 (o2 + j * 4) 4).toArray) ∧ (D 10 = true → x75 = kv0 kb) ∧ (D 11 = true → x76 = .bool r.1) ∧ (D 12 = true → x77 = .bool (!r.1)) ∧ (D 11 = false → Inv w X [.blk b1 (.cells #[.int .i64 k, .int .i64 n, .string s, .slice (some ⟨c1, o1, none⟩) ks.length cap1] t_iTerm), .blk b2 (.cells #[.int .i64 k', .int .i64 n', .string s', .slice (some ⟨c2, o2, none⟩) ks'.length cap2] t_iTerm), .blk kb (.cells kc' t_iTerm)] S w_) ∧ (D 11 = true → ∃ kc2, KnownC S kc2 r.2 ∧ Inv w X [.blk b1 (.cells #[.int .i64 k, .int .i64 n, .string s, .slice (some ⟨c1, o1, none⟩) ks.length cap1] t_iTerm), .blk b2 (.cells #[.int .i64 k', .int .i64 n', .string s', .slice (some ⟨c2, o2, none⟩) ks'.length cap2] t_iTerm), .blk kb (.cells kc2 t_iTerm)] S w_) ∧ ∃ kc3, Inv w X [.blk b1 (.cells #[.int .i64 k, .int .i64 n, .string s, .slice (some ⟨c1, o1, none⟩) ks.length cap1] t_iTerm), .blk b2 (.cells #[.int .i64 k', .int .i64 n', .string s', .slice (some ⟨c2, o2, none⟩) ks'.length cap2] t_iTerm), .blk kb (.cells kc3 t_iTerm)] S w_, ⟨fun h => Bool.noConfusion h, fun h => Bool.noConfusion h, fun h => Bool.noConfusion h, fun h => Bool.noConfusion h, fun h => Bool.noConfusion h, fun h => Bool.noConfusion h, fun h => Bool.noConfusion h, fun h => Bool.noConfusion h, fun h => Bool.noConfusion h, fun h => Bool.noConfusion h, fun h => Bool.noConfusion h, fun h => Bool.noConfusion h, fun h => Bool.noConfusion h, ⟨fun _ => hI.draw, fun h => Bool.noConfusion h, kc', hI.draw⟩⟩, ⟨?_, ?_, ?_, ?_, ?_, ?_, ?_, ?_, ?_, ?_, ?_, ?_, ?_, trivial⟩, ?_⟩
    · intro D hD_  x77 x76 x75 x74 x73 x72 x71 x70 x69 x68 x67 x66 x65 w_
      rintro ⟨h0_, h1_, h2_, h3_, h4_, h5_, h6_, h7_, h8_, h9_, h10_, h11_, h12_, ⟨hI0, hI1, kc3, hI⟩⟩
      refine r_field fo_iTerm_3 ?_
      exact ⟨fun _ => rfl, h1_, h2_, h3_, h4_, h5_, h6_, h7_, h8_, h9_, h10_, h11_, h12_, ⟨hI0, hI1, kc3, hI⟩⟩
    · intro D hD_ d0_0 x77 x76 x75 x74 x73 x72 x71 x70 x69 x68 x67 x66 x65 w_
      rintro ⟨h0_, h1_, h2_, h3_, h4_, h5_, h6_, h7_, h8_, h9_, h10_, h11_, h12_, ⟨hI0, hI1, kc3, hI⟩⟩
      obtain rfl := h0_ d0_0
      refine r_loadL hI 0 sc_SiTerm rfl rfl ?_
      exact ⟨h0_, fun _ => rfl, h2_, h3_, h4_, h5_, h6_, h7_, h8_, h9_, h10_, h11_, h12_, ⟨hI0, hI1, kc3, hI⟩⟩
    · intro D hD_  x77 x76 x75 x74 x73 x72 x71 x70 x69 x68 x67 x66 x65 w_
      rintro ⟨h0_, h1_, h2_, h3_, h4_, h5_, h6_, h7_, h8_, h9_, h10_, h11_, h12_, ⟨hI0, hI1, kc3, hI⟩⟩
      exact ⟨h0_, h1_, fun _ => rfl, h3_, h4_, h5_, h6_, h7_, h8_, h9_, h10_, h11_, h12_, ⟨hI0, hI1, kc3, hI⟩⟩
    · intro D hD_ d1_0 d2_1 x77 x76 x75 x74 x73 x72 x71 x70 x69 x68 x67 x66 x65 w_
      rintro ⟨h0_, h1_, h2_, h3_, h4_, h5_, h6_, h7_, h8_, h9_, h10_, h11_, h12_, ⟨hI0, hI1, kc3, hI⟩⟩
      obtain rfl := h1_ d1_0
      obtain rfl := h2_ d2_1
      refine r_indexAddr sl_SiTerm hj1 ?_
      exact ⟨h0_, h1_, h2_, fun _ => rfl, h4_, h5_, h6_, h7_, h8_, h9_, h10_, h11_, h12_, ⟨hI0, hI1, kc3, hI⟩⟩
    · intro D hD_ d3_0 x77 x76 x75 x74 x73 x72 x71 x70 x69 x68 x67 x66 x65 w_
      rintro ⟨h0_, h1_, h2_, h3_, h4_, h5_, h6_, h7_, h8_, h9_, h10_, h11_, h12_, ⟨hI0, hI1, kc3, hI⟩⟩
      obtain rfl := h3_ d3_0
      refine r_loadA ag_iTerm hR1.length (fun j v hj => by rw [hI.cellS hS1]; exact cellsAt_get rfl j v hj) ?_
      exact ⟨h0_, h1_, h2_, h3_, fun _ => rfl, h5_, h6_, h7_, h8_, h9_, h10_, h11_, h12_, ⟨hI0, hI1, kc3, hI⟩⟩
    · intro D hD_  x77 x76 x75 x74 x73 x72 x71 x70 x69 x68 x67 x66 x65 w_
      rintro ⟨h0_, h1_, h2_, h3_, h4_, h5_, h6_, h7_, h8_, h9_, h10_, h11_, h12_, ⟨hI0, hI1, kc3, hI⟩⟩
      refine r_field fo_iTerm_3 ?_
      exact ⟨h0_, h1_, h2_, h3_, h4_, fun _ => rfl, h6_, h7_, h8_, h9_, h10_, h11_, h12_, ⟨hI0, hI1, kc3, hI⟩⟩
    · intro D hD_ d5_0 x77 x76 x75 x74 x73 x72 x71 x70 x69 x68 x67 x66 x65 w_
      rintro ⟨h0_, h1_, h2_, h3_, h4_, h5_, h6_, h7_, h8_, h9_, h10_, h11_, h12_, ⟨hI0, hI1, kc3, hI⟩⟩
      obtain rfl := h5_ d5_0
      refine r_loadL hI 1 sc_SiTerm rfl rfl ?_
      exact ⟨h0_, h1_, h2_, h3_, h4_, h5_, fun _ => rfl, h7_, h8_, h9_, h10_, h11_, h12_, ⟨hI0, hI1, kc3, hI⟩⟩
    · intro D hD_  x77 x76 x75 x74 x73 x72 x71 x70 x69 x68 x67 x66 x65 w_
      rintro ⟨h0_, h1_, h2_, h3_, h4_, h5_, h6_, h7_, h8_, h9_, h10_, h11_, h12_, ⟨hI0, hI1, kc3, hI⟩⟩
      exact ⟨h0_, h1_, h2_, h3_, h4_, h5_, h6_, fun _ => rfl, h8_, h9_, h10_, h11_, h12_, ⟨hI0, hI1, kc3, hI⟩⟩
    · intro D hD_ d6_0 d7_1 x77 x76 x75 x74 x73 x72 x71 x70 x69 x68 x67 x66 x65 w_
      rintro ⟨h0_, h1_, h2_, h3_, h4_, h5_, h6_, h7_, h8_, h9_, h10_, h11_, h12_, ⟨hI0, hI1, kc3, hI⟩⟩
      obtain rfl := h6_ d6_0
      obtain rfl := h7_ d7_1
      refine r_indexAddr sl_SiTerm hj2 ?_
      exact ⟨h0_, h1_, h2_, h3_, h4_, h5_, h6_, h7_, fun _ => rfl, h9_, h10_, h11_, h12_, ⟨hI0, hI1, kc3, hI⟩⟩
    · intro D hD_ d8_0 x77 x76 x75 x74 x73 x72 x71 x70 x69 x68 x67 x66 x65 w_
      rintro ⟨h0_, h1_, h2_, h3_, h4_, h5_, h6_, h7_, h8_, h9_, h10_, h11_, h12_, ⟨hI0, hI1, kc3, hI⟩⟩
      obtain rfl := h8_ d8_0
      refine r_loadA ag_iTerm hR2.length (fun j v hj => by rw [hI.cellS hS2]; exact cellsAt_get rfl j v hj) ?_
      exact ⟨h0_, h1_, h2_, h3_, h4_, h5_, h6_, h7_, h8_, fun _ => rfl, h10_, h11_, h12_, ⟨hI0, hI1, kc3, hI⟩⟩
    · intro D hD_  x77 x76 x75 x74 x73 x72 x71 x70 x69 x68 x67 x66 x65 w_
      rintro ⟨h0_, h1_, h2_, h3_, h4_, h5_, h6_, h7_, h8_, h9_, h10_, h11_, h12_, ⟨hI0, hI1, kc3, hI⟩⟩
      exact ⟨h0_, h1_, h2_, h3_, h4_, h5_, h6_, h7_, h8_, h9_, fun _ => rfl, h11_, h12_, ⟨hI0, hI1, kc3, hI⟩⟩
    · intro D hD_ d4_0 d9_1 d10_2 x77 x76 x75 x74 x73 x72 x71 x70 x69 x68 x67 x66 x65 w_
      rintro ⟨h0_, h1_, h2_, h3_, h4_, h5_, h6_, h7_, h8_, h9_, h10_, h11_, h12_, ⟨hI0, hI1, kc3, hI⟩⟩
      obtain rfl := h4_ d4_0
      obtain rfl := h9_ d9_1
      obtain rfl := h10_ d10_2
      refine Run.call (A := [_, _]) fn_s_l3Match nm_s_l3Match (hI0 hD_) hcall fun v' I' S w_ => ?_
      rintro ⟨rfl, rfl, kc2, rfl, hk2⟩ _ hI
      have hI0 := fun (h : setD D 11 11 = false) => (Bool.noConfusion h : Inv w X [.blk b1 (.cells #[.int .i64 k, .int .i64 n, .string s, .slice (some ⟨c1, o1, none⟩) ks.length cap1] t_iTerm), .blk b2 (.cells #[.int .i64 k', .int .i64 n', .string s', .slice (some ⟨c2, o2, none⟩) ks'.length cap2] t_iTerm), .blk kb (.cells kc' t_iTerm)] S w_)
      have hI1 := fun (_ : setD D 11 11 = true) => (⟨kc2, hk2, hI⟩ : ∃ kc2, KnownC S kc2 r.2 ∧ Inv w X [.blk b1 (.cells #[.int .i64 k, .int .i64 n, .string s, .slice (some ⟨c1, o1, none⟩) ks.length cap1] t_iTerm), .blk b2 (.cells #[.int .i64 k', .int .i64 n', .string s', .slice (some ⟨c2, o2, none⟩) ks'.length cap2] t_iTerm), .blk kb (.cells kc2 t_iTerm)] S w_)
      obtain ⟨kc3, hI⟩ : ∃ kc3, Inv w X [.blk b1 (.cells #[.int .i64 k, .int .i64 n, .string s, .slice (some ⟨c1, o1, none⟩) ks.length cap1] t_iTerm), .blk b2 (.cells #[.int .i64 k', .int .i64 n', .string s', .slice (some ⟨c2, o2, none⟩) ks'.length cap2] t_iTerm), .blk kb (.cells kc3 t_iTerm)] S w_ := ⟨kc2, hI⟩
      exact ⟨h0_, h1_, h2_, h3_, h4_, h5_, h6_, h7_, h8_, h9_, h10_, fun _ => rfl, h12_, ⟨hI0, hI1, kc3, hI⟩⟩
    · intro D hD_ d11_0 x77 x76 x75 x74 x73 x72 x71 x70 x69 x68 x67 x66 x65 w_
      rintro ⟨h0_, h1_, h2_, h3_, h4_, h5_, h6_, h7_, h8_, h9_, h10_, h11_, h12_, ⟨hI0, hI1, kc3, hI⟩⟩
      obtain rfl := h11_ d11_0
      refine r_not ?_
      exact ⟨h0_, h1_, h2_, h3_, h4_, h5_, h6_, h7_, h8_, h9_, h10_, h11_, fun _ => rfl, ⟨hI0, hI1, kc3, hI⟩⟩
    intro D d12_ d11_ d10_ d9_ d8_ d7_ d6_ d5_ d4_ d3_ d2_ d1_ d0_ x77 x76 x75 x74 x73 x72 x71 x70 x69 x68 x67 x66 x65 w_
    rintro ⟨h0_, h1_, h2_, h3_, h4_, h5_, h6_, h7_, h8_, h9_, h10_, h11_, h12_, ⟨hI0, hI1, kc3, hI⟩⟩
    obtain rfl := h12_ d12_
    obtain rfl := h11_ d11_
    obtain rfl := h10_ d10_
    obtain rfl := h9_ d9_
    obtain rfl := h8_ d8_
    obtain rfl := h7_ d7_
    obtain rfl := h6_ d6_
    obtain rfl := h5_ d5_
    obtain rfl := h4_ d4_
    obtain rfl := h3_ d3_
    obtain rfl := h2_ d2_
    obtain rfl := h1_ d1_
    obtain rfl := h0_ d0_
    clear h0_ h1_ h2_ h3_ h4_ h5_ h6_ h7_ h8_ h9_ h10_ h11_ h12_
    obtain ⟨kc2, hk2, hI⟩ := hI1 d11_
    clear hI0 hI1
    refine condV (fun hne => ?_) (fun he' => ?_)
    · simp only [Bool.not_eq_true'] at hne
      rw [hne, if_neg (by decide)] at hrel
      rw [← hrel]
      exact ⟨_, _, _, rfl, hI.pick [false, false, true], Ext.refl _ _ _, rfl, rfl, _, rfl, hk2⟩
    · simp only [Bool.not_eq_false'] at he'
      rw [he', if_pos rfl] at hrel
      refine r_add (by omega) ?_
      exact ⟨⟨j + 1, r.2, kc2, hj1, rfl, hrel, hsn, hk2, hI⟩, by simp [intOf]; omega⟩
  · have : j = ks.length := by omega
    subst this
    rw [List.drop_length, hle, List.drop_length] at hrel
    rw [← hrel]
    exact ⟨_, _, _, rfl, hI.pick [false, false, true], Ext.refl _ _ _, rfl, rfl, _, rfl, hkc'⟩
end

end Go.Proofs.Ytnoieadimkgjcaa

/- Variables numbered anew: the plain form of both sides. -/
namespace Go.Proofs.Ytnoieadimkgjcaa
open Go Go.RowKit

def lastI : List Int → Int → Int → Nat → Int
  | [], _, cur, _ => cur
  | x :: xs, n, cur, k => lastI xs n (if x = n then (k : Int) else cur) (k + 1)
def idxI (vs : List Int) (n : Int) : Int := (indexF (σ := Unit) (fun _ x => (decide (n = x), ())) () vs 0).1
mutual
def srenT (vs : List Int) : T → T
  | .mk k n s ks => .mk k (if k = 1 then lastI vs n n 0 else n) s (srenL vs ks)
def srenL (vs : List Int) : List T → List T
  | [] => []
  | t :: ts => srenT vs t :: srenL vs ts
end
mutual
def irenT (vs : List Int) : T → T
  | .mk k n s ks => if k = 1 then .mk 1 (idxI vs n) ⟨#[]⟩ [] else .mk k n s (irenL vs ks)
def irenL (vs : List Int) : List T → List T
  | [] => []
  | t :: ts => irenT vs t :: irenL vs ts
end
theorem lastI_not : ∀ (xs : List Int) (n cur : Int) (k : Nat), n ∉ xs → lastI xs n cur k = cur
  | [], n, cur, k, _ => rfl
  | x :: xs, n, cur, k, h => by
    rw [lastI, if_neg (fun e => h (by rw [e]; exact List.mem_cons_self ..)), lastI_not xs n cur (k + 1) fun e => h (List.mem_cons_of_mem _ e)]
theorem lastI_idx : ∀ (xs : List Int) (n cur : Int) (k : Nat), n ∈ xs → xs.Nodup → lastI xs n cur k = (indexF (σ := Unit) (fun _ x => (decide (n = x), ())) () xs k).1
  | x :: xs, n, cur, k, h, hd => by
    rw [List.nodup_cons] at hd
    rw [lastI, indexF]
    by_cases e : x = n
    · subst e
      rw [if_pos rfl, lastI_not _ _ _ _ hd.1]
      simp
    · rw [if_neg e]
      have h' : n ∈ xs := by
        rcases List.mem_cons.1 h with h | h
        · exact absurd h.symm e
        · exact h
      have : decide (n = x) = false := decide_eq_false fun q => e q.symm
      simp only [this, Bool.false_eq_true, if_false]
      exact lastI_idx xs n cur (k + 1) h' hd.2
theorem lastI_rng : ∀ (xs : List Int) (n cur : Int) (k : Nat), lastI xs n cur k = cur ∨ (0 ≤ lastI xs n cur k ∧ lastI xs n cur k < k + xs.length)
  | [], n, cur, k => .inl rfl
  | x :: xs, n, cur, k => by
    rw [lastI]
    rcases lastI_rng xs n (if x = n then (k : Int) else cur) (k + 1) with h | h
    · split at h
      · right; rw [if_pos (by assumption), h]; simp; omega
      · left; rw [if_neg (by assumption)]; exact h
    · right
      simp only [List.length_cons]
      omega
theorem idxI_rng (vs : List Int) (n : Int) : -1 ≤ idxI vs n ∧ idxI vs n < vs.length + 1 := by
  have : ∀ (xs : List Int) (k : Nat), -1 ≤ (indexF (σ := Unit) (fun _ x => (decide (n = x), ())) () xs k).1 ∧ (indexF (σ := Unit) (fun _ x => (decide (n = x), ())) () xs k).1 < k + xs.length + 1 := by
    intro xs
    induction xs with
    | nil => intro k; simp [indexF]; omega
    | cons x xs ih =>
      intro k
      rw [indexF]
      have := ih (k + 1)
      split
      · simp; omega
      · simp only [List.length_cons]; omega
  have h := this vs 0
  rw [idxI]
  omega
mutual
def inT (vs : List Int) : T → Prop
  | .mk k n _ ks => (k = 1 → n ∈ vs) ∧ inL vs ks
def inL (vs : List Int) : List T → Prop
  | [] => True
  | t :: ts => inT vs t ∧ inL vs ts
end
theorem hasI_mem (l : List Int) (n : Int) : hasI l n = true ↔ n ∈ l := by
  simp [hasI]
theorem addI_mem (l : List Int) (n : Int) : n ∈ addI l n ∧ ∀ m ∈ l, m ∈ addI l n := by
  unfold addI
  split
  · rename_i h; exact ⟨(hasI_mem l n).1 h, fun m h => h⟩
  · exact ⟨by simp, fun m h => by simp [h]⟩
theorem addI_nodup {l : List Int} (n : Int) (h : l.Nodup) : (addI l n).Nodup := by
  unfold addI
  split
  · exact h
  · rename_i hn
    rw [List.nodup_append]
    refine ⟨h, by simp, fun a ha b hb e => hn ((hasI_mem l n).2 ?_)⟩
    simp at hb
    rw [← hb, ← e]
    exact ha
mutual
theorem varsT_sub : ∀ (t : T) (l : List Int), ∀ m ∈ l, m ∈ varsT t l
  | .mk k n s ks, l, m, h => by
    rw [varsT]
    refine varsL_sub ks _ m ?_
    split
    · exact (addI_mem l n).2 m h
    · exact h
theorem varsL_sub : ∀ (ts : List T) (l : List Int), ∀ m ∈ l, m ∈ varsL ts l
  | [], l, m, h => h
  | t :: ts, l, m, h => by
    rw [varsL]
    exact varsL_sub ts _ m (varsT_sub t l m h)
end
mutual
theorem varsT_nodup : ∀ (t : T) (l : List Int), l.Nodup → (varsT t l).Nodup
  | .mk k n s ks, l, h => by
    rw [varsT]
    refine varsL_nodup ks _ ?_
    split
    · exact addI_nodup n h
    · exact h
theorem varsL_nodup : ∀ (ts : List T) (l : List Int), l.Nodup → (varsL ts l).Nodup
  | [], l, h => h
  | t :: ts, l, h => by
    rw [varsL]
    exact varsL_nodup ts _ (varsT_nodup t l h)
end
mutual
theorem inT_mono {vs ws : List Int} (h : ∀ m ∈ vs, m ∈ ws) : ∀ t : T, inT vs t → inT ws t
  | .mk k n s ks, hi => by
    rw [inT] at hi ⊢
    exact ⟨fun e => h _ (hi.1 e), inL_mono h ks hi.2⟩
theorem inL_mono {vs ws : List Int} (h : ∀ m ∈ vs, m ∈ ws) : ∀ ts : List T, inL vs ts → inL ws ts
  | [], _ => by simp [inL]
  | t :: ts, hi => by
    rw [inL] at hi ⊢
    exact ⟨inT_mono h t hi.1, inL_mono h ts hi.2⟩
end
mutual
theorem varsT_in : ∀ (t : T) (l : List Int), inT (varsT t l) t
  | .mk k n s ks, l => by
    rw [varsT, inT]
    refine ⟨fun e => varsL_sub ks _ n ?_, varsL_in ks _⟩
    rw [if_pos e]
    exact (addI_mem l n).1
theorem varsL_in : ∀ (ts : List T) (l : List Int), inL (varsL ts l) ts
  | [], l => by simp [inL]
  | t :: ts, l => by
    rw [varsL, inL]
    exact ⟨inT_mono (varsL_sub ts _) t (varsT_in t l), varsL_in ts _⟩
end
theorem ownB_var {t : T} (h : ownB t = true) (hk : t.kind = 1) : t.name = emptyB ∧ t.kids.length = 0 := by
  unfold ownB at h
  rw [if_pos hk] at h
  simp only [Bool.and_eq_true, decide_eq_true_eq] at h
  exact ⟨h.2.2.1, h.2.2.2⟩
mutual
theorem ren_eqT (vs : List Int) (hd : vs.Nodup) : ∀ (t : T) (d : Int), shapeT t d = true → inT vs t → srenT vs t = irenT vs t
  | .mk k n s ks, d, h, hi => by
    rw [shapeT] at h
    rw [inT] at hi
    split at h
    · cases h
    · rw [Bool.and_eq_true] at h
      have h2 := ren_eqL vs hd ks (d - 1) h.2 hi.2
      rw [srenT, irenT]
      by_cases e : k = 1
      · obtain ⟨e1, e2⟩ := ownB_var h.1 e
        have e1' : s = ⟨#[]⟩ := e1
        have e2' : ks = [] := List.eq_nil_of_length_eq_zero e2
        subst e1' e2' e
        rw [if_pos rfl, if_pos rfl, lastI_idx vs n n 0 (hi.1 rfl) hd]
        rfl
      · rw [if_neg e, if_neg e, h2]
theorem ren_eqL (vs : List Int) (hd : vs.Nodup) : ∀ (ts : List T) (d : Int), shapeL ts d = true → inL vs ts → srenL vs ts = irenL vs ts
  | [], d, _, _ => rfl
  | t :: ts, d, h, hi => by
    rw [shapeL, Bool.and_eq_true] at h
    rw [inL] at hi
    rw [srenL, irenL, ren_eqT vs hd t d h.1 hi.1, ren_eqL vs hd ts d h.2 hi.2]
end
theorem srenL_len (vs : List Int) : ∀ ts : List T, (srenL vs ts).length = ts.length
  | [] => rfl
  | t :: ts => by rw [srenL]; simp [srenL_len vs ts]
theorem irenL_len (vs : List Int) : ∀ ts : List T, (irenL vs ts).length = ts.length
  | [] => rfl
  | t :: ts => by rw [irenL]; simp [irenL_len vs ts]
theorem srenL_take (vs : List Int) (ts : List T) (j : Nat) (h : j < ts.length) : srenL vs (ts.take (j + 1)) = srenL vs (ts.take j) ++ [srenT vs ts[j]] := by
  have : ∀ (xs ys : List T), srenL vs (xs ++ ys) = srenL vs xs ++ srenL vs ys := by
    intro xs ys
    induction xs with
    | nil => rfl
    | cons x xs ih => simp [srenL, ih]
  rw [List.take_succ_eq_append_getElem h, this]; rfl
theorem irenL_take (vs : List Int) (ts : List T) (j : Nat) (h : j < ts.length) : irenL vs (ts.take (j + 1)) = irenL vs (ts.take j) ++ [irenT vs ts[j]] := by
  have : ∀ (xs ys : List T), irenL vs (xs ++ ys) = irenL vs xs ++ irenL vs ys := by
    intro xs ys
    induction xs with
    | nil => rfl
    | cons x xs ih => simp [irenL, ih]
  rw [List.take_succ_eq_append_getElem h, this]; rfl
def numC (vs : List Int) (c : C) : C := ⟨srenT vs c.head, srenL vs c.body⟩
def cvars (c : C) : List Int := svarsL (c.head :: c.body) []
theorem num_eq {c : C} (h : clauseB c = true) : varsL (c.head :: c.body) [] = cvars c ∧ irenT (cvars c) c.head = srenT (cvars c) c.head ∧ irenL (cvars c) c.body = srenL (cvars c) c.body := by
  have hv : varsL (c.head :: c.body) [] = cvars c := by
    rw [cvars, varsL, svarsL, ← (clause_vars h []).1, (clause_vars h (svarsT c.head [])).2]
  have hd : (cvars c).Nodup := by rw [← hv]; exact varsL_nodup _ _ List.nodup_nil
  have hi : inL (cvars c) (c.head :: c.body) := by rw [← hv]; exact varsL_in _ _
  rw [inL] at hi
  rw [clauseB] at h
  simp only [Bool.and_eq_true, List.all_eq_true] at h
  obtain ⟨_, h2, h3, _⟩ := h
  rw [validB, Bool.and_eq_true] at h3
  have hb : ∀ ts : List T, (∀ t ∈ ts, goalB t = true) → shapeL ts 30 = true := by
    intro ts
    induction ts with
    | nil => intro _; rfl
    | cons t ts ih =>
      intro ht
      rw [shapeL, Bool.and_eq_true]
      have h1 := ht t (List.mem_cons_self ..)
      rw [goalB, Bool.and_eq_true, validB, Bool.and_eq_true] at h1
      exact ⟨h1.1.1, ih fun u hu => ht u (List.mem_cons_of_mem _ hu)⟩
  exact ⟨hv, (ren_eqT _ hd _ _ h3.1 hi.1).symm, (ren_eqL _ hd _ _ (hb _ h2) hi.2).symm⟩

end Go.Proofs.Ytnoieadimkgjcaa

/- Reslicing; a read slice joined to a row. -/
namespace Go.Proofs.Ytnoieadimkgjcaa
open Go Go.RowKit

theorem sliceOf_size {P : Program} {T e : TypeId} {k : Nat} (h : sliceOf P T = some (e, k)) : P.underlying T = some (.slice e) ∧ ∃ i, P.info? e = some i ∧ i.size = k := by
  unfold sliceOf at h
  split at h
  · rename_i e1 he
    rw [Option.map_eq_some_iff] at h
    obtain ⟨i, hi, hx⟩ := h
    simp only [Prod.mk.injEq] at hx
    obtain ⟨rfl, rfl⟩ := hx
    exact ⟨he, i, hi, rfl⟩
  · cases h
section
variable {P : Program} {w : World} {K : Value → World → Prop}
attribute [local irreducible] Run
theorem run_bound {n y : Nat} {code : BoundsCode} (h : n ≤ y) : (Instr.sliceBound (.int .i64 n) y code).run P w = .ok n w := by
  have h1 : (0 : Int) ≤ (n : Int) ∧ (n : Int) ≤ (y : Int) := by omega
  simp [Instr.sliceBound, asIntOf, h]
theorem r_slTo {T ty e : TypeId} {k h len cap : Nat} {a : Option Addr} (hT : sliceOf P T = some (e, k)) (hh : h ≤ cap) (hk : K (.slice (if cap = 0 then a else a.map (·.add (0 * k))) h cap) w) :
    Run P (sOp (.slice T (.const (.slice a len cap)) none (some (.const (.int .i64 h))) none) ty) w K := by
  obtain ⟨hu, i, hi, _⟩ := sliceOf_size hT
  refine Run.of ?_ hk
  simp [sOp, execOp, ev0, evE, Instr.sliceAt, Instr.slice, Instr.sliceBounds, run_underlying hu, run_bound hh, sizeOf, typeInfo, hi]
theorem r_slFrom {T ty e : TypeId} {k l len cap : Nat} {a : Option Addr} (hT : sliceOf P T = some (e, k)) (hl : l ≤ len) (hk : K (.slice (if cap = l then a else a.map (·.add (l * k))) (len - l) (cap - l)) w) :
    Run P (sOp (.slice T (.const (.slice a len cap)) (some (.const (.int .i64 l))) none none) ty) w K := by
  obtain ⟨hu, i, hi, hs⟩ := sliceOf_size hT
  refine Run.of ?_ hk
  simp [sOp, execOp, ev0, evE, Instr.sliceAt, Instr.slice, Instr.sliceBounds, run_underlying hu, run_bound hl, sizeOf, typeInfo, hi, hs]
theorem r_slMid {T ty e : TypeId} {k l h len cap : Nat} {a : Option Addr} (hT : sliceOf P T = some (e, k)) (hl : l ≤ h) (hh : h ≤ cap) (hk : K (.slice (if cap = l then a else a.map (·.add (l * k))) (h - l) (cap - l)) w) :
    Run P (sOp (.slice T (.const (.slice a len cap)) (some (.const (.int .i64 l))) (some (.const (.int .i64 h))) none) ty) w K := by
  obtain ⟨hu, i, hi, hs⟩ := sliceOf_size hT
  refine Run.of ?_ hk
  simp [sOp, execOp, ev0, evE, Instr.sliceAt, Instr.slice, Instr.sliceBounds, run_underlying hu, run_bound hl, run_bound hh, sizeOf, typeInfo, hi, hs]
theorem r_slMax {T ty e : TypeId} {k l h m len cap : Nat} {a : Option Addr} (hT : sliceOf P T = some (e, k)) (hl : l ≤ h) (hh : h ≤ m) (hm : m ≤ cap) (hk : K (.slice (if m = l then a else a.map (·.add (l * k))) (h - l) (m - l)) w) :
    Run P (sOp (.slice T (.const (.slice a len cap)) (some (.const (.int .i64 l))) (some (.const (.int .i64 h))) (some (.const (.int .i64 m)))) ty) w K := by
  obtain ⟨hu, i, hi, hs⟩ := sliceOf_size hT
  refine Run.of ?_ hk
  simp [sOp, execOp, ev0, evE, Instr.sliceAt, Instr.slice, Instr.sliceBounds, run_underlying hu, run_bound hl, run_bound hh, run_bound hm, sizeOf, typeInfo, hi, hs]
end
theorem RdSl.to {α : Type} {S : Store} {k : Nat} {R : List Value → α → Prop} {a : Option Addr} {cap n h : Nat} {xs : List α} (hx : RdSl S k R (.slice a n cap) xs) (hh : h ≤ xs.length) :
    RdSl S k R (.slice (if cap = 0 then a else a.map (·.add (0 * k))) h cap) (xs.take h) := by
  obtain ⟨a', cap', e, hl, hc, hx⟩ := hx
  simp only [Value.slice.injEq] at e
  obtain ⟨rfl, rfl, rfl⟩ := e
  have e1 : (if cap = 0 then a else a.map (·.add (0 * k))) = a := by
    split
    · rfl
    · cases a <;> simp [Addr.add]
  rw [e1]
  have e2 : h = (xs.take h).length := by rw [List.length_take]; omega
  refine ⟨a, cap, by rw [← e2], by omega, hc, ?_⟩
  rcases hx with rfl | ⟨b, o, c, E, fz, rfl, hS, hR⟩
  · left; simp
  · right
    refine ⟨b, o, c, E, fz, rfl, hS, fun i hi => ?_⟩
    rw [List.getElem_take]
    exact hR i (by omega)
theorem RdSl.from {α : Type} {S : Store} {k : Nat} {R : List Value → α → Prop} {a : Option Addr} {cap n l : Nat} {xs : List α} (hx : RdSl S k R (.slice a n cap) xs) (hl : l ≤ xs.length) :
    RdSl S k R (.slice (if cap = l then a else a.map (·.add (l * k))) (n - l) (cap - l)) (xs.drop l) := by
  obtain ⟨a', cap', e, hlc, hc, hx⟩ := hx
  simp only [Value.slice.injEq] at e
  obtain ⟨rfl, rfl, rfl⟩ := e
  refine ⟨_, cap - l, by rw [List.length_drop], by rw [List.length_drop]; omega, by omega, ?_⟩
  by_cases hd : xs.drop l = []
  · exact .inl hd
  · rcases hx with rfl | ⟨b, o, c, E, fz, rfl, hS, hR⟩
    · simp at hd
    · right
      have hlt : l < xs.length := by
        rcases Nat.lt_or_ge l xs.length with h | h
        · exact h
        · exact absurd (List.drop_eq_nil_of_le h) hd
      refine ⟨b, o + l * k, c, E, fz, ?_, hS, fun i hi => ?_⟩
      · rw [if_neg (by omega)]
        simp [Addr.add]
      · rw [List.getElem_drop]
        have := hR (l + i) (by simp at hi; omega)
        rwa [Nat.add_mul, ← Nat.add_assoc] at this
section
variable {P : Program} {w w0 : World} {X : List Nat} {L : List Item} {S : Store} {K : Value → World → Prop}
attribute [local irreducible] Run CondV GuardV LoadV
theorem r_sliceTo {α : Type} {R : List Value → α → Prop} {xs : List α} {v : Value} {T ty e : TypeId} {k h : Nat} (hT : sliceOf P T = some (e, k)) (hx : RdSl S k R v xs) (hh : h ≤ xs.length)
    (hk : ∀ v', RdSl S k R v' (xs.take h) → K v' w) : Run P (sOp (.slice T (.const v) none (some (.const (.int .i64 h))) none) ty) w K := by
  obtain ⟨a, cap, rfl, hl, hc, hx'⟩ := id hx
  exact r_slTo hT (by omega) (hk _ (hx.to hh))
theorem r_sliceFrom {α : Type} {R : List Value → α → Prop} {xs : List α} {v : Value} {T ty e : TypeId} {k l : Nat} (hT : sliceOf P T = some (e, k)) (hx : RdSl S k R v xs) (hl : l ≤ xs.length)
    (hk : ∀ v', RdSl S k R v' (xs.drop l) → K v' w) : Run P (sOp (.slice T (.const v) (some (.const (.int .i64 l))) none none) ty) w K := by
  obtain ⟨a, cap, rfl, hl', hc, hx'⟩ := id hx
  exact r_slFrom hT hl (hk _ (hx.from hl))
end
theorem RdSl.exact {α : Type} {S : Store} {k : Nat} {R : List Value → α → Prop} {v : Value} {ys : List α} (h : RdSl S k R v ys) (hk : ∀ cs y, R cs y → cs.length = k) :
    ∃ ds : List {cs : List Value // cs.length = k}, RdSl S k (fun cs d => cs = d.val) v ds ∧ Rows k R (ds.map (·.val)) ys := by
  obtain ⟨a, cap, rfl, hl, hc, hx⟩ := h
  rcases hx with rfl | ⟨b, o, c, E, fz, rfl, hS, hR⟩
  · exact ⟨[], ⟨a, cap, rfl, hl, hc, .inl rfl⟩, Rows.nil _ _⟩
  · refine ⟨List.ofFn fun i : Fin ys.length => ⟨cellsAt c (o + i.val * k) k, hk _ _ (hR i.val i.isLt)⟩, ⟨_, cap, by rw [List.length_ofFn], by rw [List.length_ofFn]; exact hl, hc, .inr ⟨b, o, c, E, fz, rfl, hS, fun i hi => by simp⟩⟩, ⟨by simp, fun cs hcs => ?_, fun i h1 h2 => ?_⟩⟩
    · obtain ⟨d, _, rfl⟩ := List.mem_map.1 hcs
      exact d.property
    · simp only [List.getElem_map, List.getElem_ofFn]
      exact hR i h1
section
variable {P : Program} {w w0 : World} {X : List Nat} {L : List Item} {S : Store} {K : Value → World → Prop}
attribute [local irreducible] Run CondV GuardV LoadV
theorem r_appendRd {α : Type} {R : List Value → α → Prop} (h : Inv w0 X L S w) {T ty e : TypeId} {k by_ : Nat} {z v u : Value} {cs : List Bool} {css : List (List Value)} {ys : List α} (i : Nat)
    (hT : mkOf P T = some (e, k, by_, z)) (hk0 : 0 < k) (hi : L[i]? = some (rowG v e k css)) (hr : RdSl S k R u ys) (hlen : ∀ cs y, R cs y → cs.length = k) (h1 : ∀ cs y, R cs y → ∀ c ∈ cs, c.oneCell' = true)
    (hfit : css.length + ys.length ≤ 4294967296) (hby : by_ ≤ 32768) (hk : ∀ v' w' css2, Rows k R css2 ys → Inv w0 X (L.set i (rowG v' e k (css ++ css2))) S w' → K v' w') :
    Run P (sBuiltin .append #[T, T] ty cs [v, u]) w K := by
  obtain ⟨ds, hd, hR⟩ := hr.exact hlen
  have hdl : ds.length = ys.length := by have := hR.hc; simpa using this
  have hone : ∀ d ∈ ds, ∀ c ∈ d.val, c.oneCell' = true := by
    intro d hd' c hc
    obtain ⟨j, hj, rfl⟩ := List.mem_iff_getElem.1 hd'
    have := hR.hR j (by omega) (by simpa using hj)
    simp only [List.getElem_map] at this
    exact h1 _ _ this c hc
  obtain ⟨a, cap, rfl, hl', hc', hx⟩ := id hd
  have e1 : ∀ v', Item.row v' e k (css.length + ds.length) (css.flatten ++ (ds.map (·.val)).flatten) = rowG v' e k (css ++ ds.map (·.val)) := fun v' => by simp [rowG]
  rcases hx with rfl | ⟨b, o, c, E, fz, rfl, hS, hel⟩
  · refine r_append0 h i hT hi (hk v w [] (by simpa using hR) ?_)
    have : L.set i (rowG v e k (css ++ [])) = L := by
      obtain ⟨hlt, e'⟩ := List.getElem?_eq_some_iff.1 hi
      rw [List.append_nil, ← e', List.set_getElem_self]
    rw [this]
    exact h
  · have hfl : (ds.map (·.val)).flatten.length = ds.length * k := by
      rw [flatten_len (k := k) (fun cs hcs => by obtain ⟨d, _, rfl⟩ := List.mem_map.1 hcs; exact d.property), List.length_map]
    refine r_append h i (ds.map (·.val)).flatten hT hk0 hi hfl ?_ ?_ (by omega) hby fun v' w' hI => hk _ _ _ hR ?_
    · intro j u hj
      have hj' : j < ds.length * k := by
        rw [← hfl]
        exact (List.getElem?_eq_some_iff.1 hj).1
      have hq : j / k < ds.length := (Nat.div_lt_iff_lt_mul hk0).2 hj'
      have hcell := hel (j / k) hq
      have hflat := flatten_at k (ds.map (·.val)) (j / k) (fun cs hcs => by obtain ⟨d, _, rfl⟩ := List.mem_map.1 hcs; exact d.property) (by simpa using hq)
      have hdm := Nat.div_add_mod j k
      rw [Nat.mul_comm] at hdm
      rw [h.cellS hS]
      have e2 : (ds.map (·.val)).flatten[j]? = (ds[j / k].val)[j % k]? := by
        rw [List.getElem_map] at hflat
        rw [← hflat, List.getElem?_take, if_pos (Nat.mod_lt _ hk0), List.getElem?_drop]
        congr 1
        omega
      rw [e2] at hj
      have := cellsAt_get hcell (j % k) u hj
      rw [← this]
      congr 1
      omega
    · intro u hu
      obtain ⟨cs, hcs, hu⟩ := List.mem_flatten.1 hu
      obtain ⟨d, hd', rfl⟩ := List.mem_map.1 hcs
      exact hone d hd' u hu
    · rw [← e1]
      exact hI
end

end Go.Proofs.Ytnoieadimkgjcaa

/- slices.Delete on a tree of the function's own. -/
namespace Go.Proofs.Ytnoieadimkgjcaa
open Go Go.RowKit
section
variable {P : Program} {w w0 : World} {X : List Nat} {L : List Item} {S : Store} {K : Value → World → Prop}
attribute [local irreducible] Run CondV GuardV LoadV
/- append within the room of a block -/
theorem r_appendIn (h : Inv w0 X L S w) {T ty e E : TypeId} {k by_ n m g o cap cp : Nat} {z : Value} {cs : List Bool} {cur : Array Value} (i : Nat) (news : List Value) {a : Addr} (ha : a = ⟨g, o, none⟩ ∨ m = 0)
    (hT : mkOf P T = some (e, k, by_, z)) (hi : L[i]? = some (.blk g (.cells cur E))) (hl : news.length = m * k) (hnews : ∀ j u, news[j]? = some u → cur[o + j]? = some u) (h1 : ∀ u ∈ news, u.oneCell' = true)
    (hroom : n + m ≤ cap) (hfit : n * k + news.length ≤ cur.size) (hk : ∀ w', Inv w0 X (L.set i (.blk g (.cells (putCells cur (n * k) news) E))) S w' → K (.slice (some ⟨g, 0, none⟩) (n + m) cap) w') :
    Run P (sBuiltin .append #[T, T] ty cs [.slice (some ⟨g, 0, none⟩) n cap, .slice (some a) m cp]) w K := by
  obtain ⟨hu, inf, hi', hz, hs, hb, hzs⟩ := mkOf_some hT
  have hg := h.its _ (List.mem_of_getElem? hi)
  simp only [Item.holds] at hg
  have hn : ∀ j u, news[j]? = some u → w.cell? (a.add j) = some u := by
    intro j u hj
    rcases ha with rfl | rfl
    · rw [add_lit, h.cellL hi]
      exact hnews j u hj
    · rw [Nat.zero_mul] at hl
      have : news = [] := List.eq_nil_of_length_eq_zero hl
      subst this
      simp at hj
  have hf := run_firstCells_some (P := P) w inf.size m a m cp news (by rw [hs]; exact hl) hn
  have hst := run_storeCells_at P g (n * k) E news 0 cur w hg (by simpa using hfit) h1
  simp only [Nat.add_zero] at hst
  refine Run.of (v := .slice (some ⟨g, 0, none⟩) (n + m) cap) (w' := w.setRow g (putCells cur (n * k) news)) ?_ (hk _ (h.setBlk hi _ (setRow_eq hg)))
  rw [hs] at hf
  simp [sBuiltin, builtin, Builtin.append_, run_underlying hu, sizeOf, typeInfo, hi', Builtin.lenOf, hroom, hf, hs, hst, putCells, add_lit]
theorem r_clear (h : Inv w0 X L S w) {T ty e E : TypeId} {k by_ n g o cp : Nat} {z : Value} {cs : List Bool} {cur : Array Value} (i : Nat)
    (hT : mkOf P T = some (e, k, by_, z)) (hi : L[i]? = some (.blk g (.cells cur E))) (hfit : o + n * k ≤ cur.size) (hn : 0 < n) (h1 : ∀ u ∈ (Builtin.zeroCells z.cells n).toList, u.oneCell' = true)
    (hk : ∀ w', Inv w0 X (L.set i (.blk g (.cells (putCells cur o (Builtin.zeroCells z.cells n).toList) E))) S w' → K (.tuple #[]) w') :
    Run P (sBuiltin .clear #[T] ty cs [.slice (some ⟨g, o, none⟩) n cp]) w K := by
  obtain ⟨hu, inf, hi', hz, hs, hb, hzs⟩ := mkOf_some hT
  have hg := h.its _ (List.mem_of_getElem? hi)
  simp only [Item.holds] at hg
  obtain ⟨n', rfl⟩ : ∃ n', n = n' + 1 := ⟨n - 1, by omega⟩
  have hst := run_storeCells_at P g o E (Builtin.zeroCells z.cells (n' + 1)).toList 0 cur w hg (by rw [Array.length_toList, size_zeroCells, hzs]; simpa using hfit) h1
  simp only [Nat.add_zero] at hst
  refine Run.of (v := .tuple #[]) (w' := w.setRow g (putCells cur o (Builtin.zeroCells z.cells (n' + 1)).toList)) ?_ (hk _ (h.setBlk hi _ (setRow_eq hg)))
  simp [sBuiltin, builtin, Builtin.clear_, run_underlying hu, zeroValue, typeInfo, hi', hz, hst, putCells]
end
theorem cellsAt_put_in {c : Array Value} {p q k : Nat} {news : List Value} (hf : p + news.length ≤ c.size) (hq : q + k ≤ news.length) : cellsAt (putCells c p news) (p + q) k = (news.drop q).take k := by
  apply List.ext_getElem?
  intro i
  simp only [cellsAt, putCells, List.getElem?_take, List.getElem?_drop]
  split
  · rename_i hi
    simp only [List.getElem?_append, List.length_append, List.length_take, Array.length_toList]
    have e1 : min p c.size = p := by omega
    rw [e1, if_pos (by omega), if_neg (by omega)]
    congr 1
    omega
  · rfl
theorem sub_flatten {α : Type} {l m : List (List α)} (h : List.Sublist l m) : List.Sublist l.flatten m.flatten := by
  induction h with
  | slnil => exact List.Sublist.refl _
  | cons a _ ih => rw [List.flatten_cons]; exact ih.trans (List.sublist_append_right _ _)
  | cons_cons a _ ih => rw [List.flatten_cons, List.flatten_cons]; exact List.Sublist.append_left ih _

end Go.Proofs.Ytnoieadimkgjcaa

/- DropClause: both sides. -/
namespace Go.Proofs.Ytnoieadimkgjcaa
open Go Go.RowKit
attribute [local irreducible] Run CondV GuardV LoadV

theorem Delete_calls {ys : List C} {S : Store} {L : Heaplet} {v : Value} {i : Nat} (hT : TrSl 5 TrC L v ys) (hi : i < ys.length) (hlen : ys.length ≤ 4000000000) :
    Tri Try.prog n_x_Delete_Clause [v, .int .i64 i, .int .i64 ((i : Int) + 1)] (blks L) S fun r I' S' => S' = S ∧ ∃ L', I' = blks L' ∧ TrSl 5 TrC L' r (ys.eraseIdx i) := by
  intro w hI
  obtain ⟨a, cap, rfl, hl, hc, hT⟩ := hT
  rcases hT with ⟨rfl, _⟩ | ⟨b, c, E, Ls, rfl, rfl, hLs, hsz, hT⟩
  · simp at hi
  obtain ⟨X, hX⟩ : ∃ X, X = feet (blks ((b, .cells c E) :: Ls.flatten)) := ⟨_, rfl⟩
  rw [← hX] at hI ⊢
  obtain ⟨n, hn⟩ : ∃ n, ys.length = n + 1 := ⟨ys.length - 1, by omega⟩
  have ei : ((i : Int) + 1) = ((i + 1 : Nat) : Int) := by omega
  rw [ei]
  refine calls_x_Delete_Clause ?_
  unfold sh_x_Delete_Clause
  refine r_len sl_SiClause ?_
  refine r_slMax (m := ys.length) sl_SiClause (Nat.le_succ i) (by omega) hl ?_
  refine r_eql ?_
  rw [decide_eq_false (by omega)]
  refine condV (fun hb => by cases hb) (fun _ => ?_)
  refine r_len sl_SiClause ?_
  obtain ⟨news, hnews⟩ : ∃ news, news = (c.toList.drop ((i + 1) * 5)).take ((n - i) * 5) := ⟨_, rfl⟩
  have hcsz : (n + 1) * 5 ≤ c.size := by omega
  have hnl : news.length = (n - i) * 5 := by
    rw [hnews, List.length_take, List.length_drop, Array.length_toList]
    omega
  have hnu : ∀ j u, news[j]? = some u → c[(i + 1) * 5 + j]? = some u := by
    intro j u hj
    rw [hnews, List.getElem?_take] at hj
    split at hj
    · rw [List.getElem?_drop] at hj
      rw [← Array.getElem?_toList]
      exact hj
    · cases hj
  have hone : ∀ u ∈ news, u.oneCell' = true := by
    intro u hu
    obtain ⟨j, hj, rfl⟩ := List.mem_iff_getElem.1 hu
    have hj5 : j / 5 + (i + 1) < ys.length := by omega
    have hc1 := (hT (j / 5 + (i + 1)) hj5 (by omega)).one
    refine hc1 _ ?_
    have hg := hnu j _ (List.getElem?_eq_getElem hj)
    have : (cellsAt c ((j / 5 + (i + 1)) * 5) 5)[j % 5]? = some news[j] := by
      rw [cellsAt, List.getElem?_take, if_pos (by omega), List.getElem?_drop, Array.getElem?_toList, ← hg]
      congr 1
      omega
    exact List.mem_of_getElem? this
  obtain ⟨c1, hc1⟩ : ∃ c1, c1 = putCells c (i * 5) news := ⟨_, rfl⟩
  have hs1 : c1.size = c.size := by rw [hc1]; exact putCells_size _ _ _ (by omega)
  have e0 : (if cap = 0 then some (⟨b, 0, none⟩ : Addr) else (some (⟨b, 0, none⟩ : Addr)).map (·.add (0 * 5))) = some ⟨b, 0, none⟩ := by
    rw [if_neg (by omega)]; rfl
  refine ⟨fun D x0 x26 x25 x24 x23 x22 x21 x20 w_ => (D 0 = true → x20 = .slice (some ⟨b, 0, none⟩) ys.length cap) ∧ (D 1 = true → x21 = .int .i64 i) ∧ (D 2 = true → x22 = .slice (some ⟨b, 0, none⟩) i cap) ∧ (D 3 = true → x23 = .slice (some ⟨b, 0, none⟩) ys.length cap) ∧ (D 4 = true → x24 = .int .i64 ((i + 1 : Nat) : Int)) ∧ (D 5 = true → x25 = .slice (some (if cap = i + 1 then ⟨b, 0, none⟩ else ⟨b, (i + 1) * 5, none⟩)) (n - i) (cap - (i + 1))) ∧ (D 6 = true → True) ∧ (D 7 = true → True) ∧ (D 7 = false → x0 = .slice (some ⟨b, 0, none⟩) ys.length cap) ∧ (D 7 = true → x0 = .slice (some ⟨b, 0, none⟩) n cap) ∧ (D 7 = true → D 0 = true ∧ D 3 = true ∧ D 6 = true) ∧ (D 6 = true → x26 = .slice (some ⟨b, 0, none⟩) n cap) ∧ Inv w X (.blk b (.cells (match D 6 with | true => c1 | false => c) E) :: blks Ls.flatten) S w_, ⟨fun h => Bool.noConfusion h, fun h => Bool.noConfusion h, fun h => Bool.noConfusion h, fun h => Bool.noConfusion h, fun h => Bool.noConfusion h, fun h => Bool.noConfusion h, fun h => Bool.noConfusion h, fun h => Bool.noConfusion h, ⟨fun _ => rfl, fun h => Bool.noConfusion h, fun h => Bool.noConfusion h, fun h => Bool.noConfusion h, hI.draw⟩⟩, ⟨?_, ?_, ?_, ?_, ?_, ?_, ?_, ?_, trivial⟩, ?_⟩
  · intro D hD_  x0 x26 x25 x24 x23 x22 x21 x20 w_
    rintro ⟨h0_, h1_, h2_, h3_, h4_, h5_, h6_, h7_, ⟨e0', e7, k7, e6, hI⟩⟩
    have f7 : D 7 = false := Bool.eq_false_iff.2 fun h => by rw [(k7 h).1] at hD_; cases hD_
    have q0 := e0' f7
    subst q0
    have k7 : setD D 0 7 = true → setD D 0 0 = true ∧ setD D 0 3 = true ∧ setD D 0 6 = true := fun h => absurd h (by rw [show setD D 0 7 = D 7 from rfl, f7]; decide)
    exact ⟨fun _ => by first | assumption | trivial, h1_, h2_, h3_, h4_, h5_, h6_, h7_, ⟨e0', e7, k7, e6, hI⟩⟩
  · intro D hD_  x0 x26 x25 x24 x23 x22 x21 x20 w_
    rintro ⟨h0_, h1_, h2_, h3_, h4_, h5_, h6_, h7_, ⟨e0', e7, k7, e6, hI⟩⟩
    exact ⟨h0_, fun _ => rfl, h2_, h3_, h4_, h5_, h6_, h7_, ⟨e0', e7, k7, e6, hI⟩⟩
  · intro D hD_ d0_0 d1_1 x0 x26 x25 x24 x23 x22 x21 x20 w_
    rintro ⟨h0_, h1_, h2_, h3_, h4_, h5_, h6_, h7_, ⟨e0', e7, k7, e6, hI⟩⟩
    have g0_ := h0_ d0_0
    obtain rfl := h1_ d1_1
    subst g0_
    refine r_slTo sl_SiClause (by omega) ?_
    rw [e0]
    exact ⟨h0_, h1_, fun _ => by first | assumption | trivial, h3_, h4_, h5_, h6_, h7_, ⟨e0', e7, k7, e6, hI⟩⟩
  · intro D hD_  x0 x26 x25 x24 x23 x22 x21 x20 w_
    rintro ⟨h0_, h1_, h2_, h3_, h4_, h5_, h6_, h7_, ⟨e0', e7, k7, e6, hI⟩⟩
    have f7 : D 7 = false := Bool.eq_false_iff.2 fun h => by rw [(k7 h).2.1] at hD_; cases hD_
    have q0 := e0' f7
    subst q0
    have k7 : setD D 3 7 = true → setD D 3 0 = true ∧ setD D 3 3 = true ∧ setD D 3 6 = true := fun h => absurd h (by rw [show setD D 3 7 = D 7 from rfl, f7]; decide)
    exact ⟨h0_, h1_, h2_, fun _ => by first | assumption | trivial, h4_, h5_, h6_, h7_, ⟨e0', e7, k7, e6, hI⟩⟩
  · intro D hD_  x0 x26 x25 x24 x23 x22 x21 x20 w_
    rintro ⟨h0_, h1_, h2_, h3_, h4_, h5_, h6_, h7_, ⟨e0', e7, k7, e6, hI⟩⟩
    exact ⟨h0_, h1_, h2_, h3_, fun _ => rfl, h5_, h6_, h7_, ⟨e0', e7, k7, e6, hI⟩⟩
  · intro D hD_ d3_0 d4_1 x0 x26 x25 x24 x23 x22 x21 x20 w_
    rintro ⟨h0_, h1_, h2_, h3_, h4_, h5_, h6_, h7_, ⟨e0', e7, k7, e6, hI⟩⟩
    have g3_ := h3_ d3_0
    obtain rfl := h4_ d4_1
    subst g3_
    refine r_slFrom sl_SiClause (by omega) ?_
    have ea : (if cap = i + 1 then some (⟨b, 0, none⟩ : Addr) else (some (⟨b, 0, none⟩ : Addr)).map (·.add ((i + 1) * 5))) = some (if cap = i + 1 then ⟨b, 0, none⟩ else ⟨b, (i + 1) * 5, none⟩) := by
      split <;> simp [Addr.add]
    have em : ys.length - (i + 1) = n - i := by omega
    rw [ea, em]
    exact ⟨h0_, h1_, h2_, h3_, h4_, fun _ => by first | assumption | trivial, h6_, h7_, ⟨e0', e7, k7, e6, hI⟩⟩
  · intro D hD_ d2_0 d5_1 x0 x26 x25 x24 x23 x22 x21 x20 w_
    rintro ⟨h0_, h1_, h2_, h3_, h4_, h5_, h6_, h7_, ⟨e0', e7, k7, e6, hI⟩⟩
    have g2_ := h2_ d2_0
    have g5_ := h5_ d5_1
    subst g2_ g5_
    have f7 : D 7 = false := Bool.eq_false_iff.2 fun h => by rw [(k7 h).2.2] at hD_; cases hD_
    rw [hD_] at hI
    refine r_appendIn (o := (i + 1) * 5) hI 0 news (by by_cases hq : cap = i + 1; right; omega; left; rw [if_neg hq]) mk_SiClause rfl hnl hnu hone (by omega) (by show i * 5 + news.length ≤ c.size; omega) fun w_ hI => ?_
    have ei2 : i + (n - i) = n := by omega
    rw [ei2]
    have e6 : setD D 6 6 = true → Value.slice (some ⟨b, 0, none⟩) n cap = .slice (some ⟨b, 0, none⟩) n cap := fun _ => rfl
    have k7 : setD D 6 7 = true → setD D 6 0 = true ∧ setD D 6 3 = true ∧ setD D 6 6 = true := fun h => absurd h (by rw [show setD D 6 7 = D 7 from rfl, f7]; decide)
    have hI : Inv w X (.blk b (.cells (match setD D 6 6 with | true => c1 | false => c) E) :: blks Ls.flatten) S w_ := by
      show Inv w X (.blk b (.cells c1 E) :: blks Ls.flatten) S w_
      rw [hc1]
      exact hI
    exact ⟨h0_, h1_, h2_, h3_, h4_, h5_, fun _ => by first | assumption | trivial, h7_, ⟨e0', e7, k7, e6, hI⟩⟩
  · intro D hD_ d6_0 d6_1 d0_2 d1_3 d2_4 d3_5 d4_6 d5_7 d6_8 x0 x26 x25 x24 x23 x22 x21 x20 w_
    rintro ⟨h0_, h1_, h2_, h3_, h4_, h5_, h6_, h7_, ⟨e0', e7, k7, e6, hI⟩⟩
    have g6_ := h6_ d6_0
    have q6 := e6 d6_0
    subst q6
    have e0' : setD D 7 7 = false → Value.slice (some ⟨b, 0, none⟩) n cap = .slice (some ⟨b, 0, none⟩) ys.length cap := fun h => Bool.noConfusion h
    have e7 : setD D 7 7 = true → Value.slice (some ⟨b, 0, none⟩) n cap = .slice (some ⟨b, 0, none⟩) n cap := fun _ => rfl
    have k7 : setD D 7 7 = true → setD D 7 0 = true ∧ setD D 7 3 = true ∧ setD D 7 6 = true := fun _ => ⟨d0_2, d3_5, d6_0⟩
    exact ⟨h0_, h1_, h2_, h3_, h4_, h5_, h6_, fun _ => by first | assumption | trivial, ⟨e0', e7, k7, e6, hI⟩⟩
  intro D d7_ d6_ d5_ d4_ d3_ d2_ d1_ d0_ x0 x26 x25 x24 x23 x22 x21 x20 w_
  rintro ⟨h0_, h1_, h2_, h3_, h4_, h5_, h6_, h7_, ⟨e0', e7, k7, e6, hI⟩⟩
  have g7_ := h7_ d7_
  have g6_ := h6_ d6_
  have g5_ := h5_ d5_
  obtain rfl := h4_ d4_
  have g3_ := h3_ d3_
  have g2_ := h2_ d2_
  obtain rfl := h1_ d1_
  have g0_ := h0_ d0_
  clear h0_ h1_ h2_ h3_ h4_ h5_ h6_ h7_
  have q7 := e7 d7_
  subst q7
  rw [d6_] at hI
  have hI : Inv w X (.blk b (.cells c1 E) :: blks Ls.flatten) S w_ := hI
  refine r_len sl_SiClause ?_
  rw [hn]
  refine r_slMid sl_SiClause (Nat.le_succ n) (by omega) ?_
  rw [if_neg (by omega)]
  have hz5 : (Builtin.zeroCells (Value.agg #[.int .i64 0, .int .i64 0, .string ⟨#[]⟩, .slice none 0 0, .slice none 0 0]).cells 1).toList = [.int .i64 0, .int .i64 0, .string ⟨#[]⟩, .slice none 0 0, .slice none 0 0] := by kernel_rfl
  have en : n + 1 - n = 1 := by omega
  rw [en]
  have ead : (some (⟨b, 0, none⟩ : Addr)).map (·.add (n * 5)) = some ⟨b, n * 5, none⟩ := by rw [Option.map_some, add_lit, Nat.zero_add]
  rw [ead]
  refine r_clear (n := 1) (o := n * 5) hI 0 mk_SiClause rfl (by omega) (by omega) (by rw [hz5]; simp [Value.oneCell']) fun w' hI => ?_
  rw [hz5] at hI
  obtain ⟨c2, hc2⟩ : ∃ c2, c2 = putCells c1 (n * 5) [.int .i64 0, .int .i64 0, .string ⟨#[]⟩, .slice none 0 0, .slice none 0 0] := ⟨_, rfl⟩
  have hs2 : c2.size = c.size := by rw [hc2]; exact (putCells_size _ _ _ (by simp only [List.length_cons, List.length_nil]; omega)).trans hs1
  have hI : Inv w X (blks ((b, .cells c2 E) :: (Ls.eraseIdx i).flatten)) S w' := by
    have h1 : Inv w X (blks ((b, .cells c2 E) :: Ls.flatten)) S w' := by rw [hc2]; exact hI
    refine h1.sub ?_
    exact ((sub_flatten (List.eraseIdx_sublist Ls i)).map _).cons_cons _
  have hel : (ys.eraseIdx i).length = n := by rw [List.length_eraseIdx, if_pos hi]; omega
  have hLl : (Ls.eraseIdx i).length = n := by rw [List.length_eraseIdx, if_pos (by omega)]; omega
  refine ⟨_, _, _, rfl, hI, Ext.refl _ _ _, rfl, _, rfl, _, cap, by rw [hel], by omega, hc, .inr ⟨b, c2, E, Ls.eraseIdx i, rfl, rfl, by omega, by omega, fun j h1 h2 => ?_⟩⟩
  have hjn : j < n := by omega
  have hcell : cellsAt c2 (j * 5) 5 = cellsAt c1 (j * 5) 5 := by
    rw [hc2, cellsAt_put_ne (by simp; omega) (by simp; omega)]
  rw [hcell, List.getElem_eraseIdx, List.getElem_eraseIdx]
  by_cases hji : j < i
  · have hcell2 : cellsAt c1 (j * 5) 5 = cellsAt c (j * 5) 5 := by
      rw [hc1, cellsAt_put_ne (by omega) (by omega)]
    rw [dif_pos hji, dif_pos hji, hcell2]
    exact hT j (by omega) (by omega)
  · rw [dif_neg hji, dif_neg hji]
    have hcell2 : cellsAt c1 (j * 5) 5 = cellsAt c ((j + 1) * 5) 5 := by
      have e1 : j * 5 = i * 5 + (j - i) * 5 := by omega
      rw [hc1, e1, cellsAt_put_in (by omega) (by omega), hnews, List.drop_take, List.take_take, List.drop_drop, cellsAt]
      have e2 : min 5 ((n - i) * 5 - (j - i) * 5) = 5 := by omega
      have e3 : (i + 1) * 5 + (j - i) * 5 = (j + 1) * 5 := by omega
      rw [e2, e3]
    rw [hcell2]
    exact hT (j + 1) (by omega) (by omega)

end Go.Proofs.Ytnoieadimkgjcaa

/- DropClause: both sides. -/
namespace Go.Proofs.Ytnoieadimkgjcaa
open Go Go.RowKit
attribute [local irreducible] Run CondV GuardV LoadV

def dropB (p : List C) (i : Int) : Bool := progB p && (decide (0 ≤ i) && decide (i < p.length))
def dropPs (p : List C) (i : Int) : List C := if dropB p i = true then p.eraseIdx i.toNat else []
theorem dropB_iff {p : List C} {i : Int} (h : dropB p i = true) : ∃ j : Nat, i = j ∧ j < p.length := by
  simp only [dropB, Bool.and_eq_true, decide_eq_true_eq] at h
  exact ⟨i.toNat, by omega, by omega⟩
theorem erase_w : ∀ (p : List C) (j : Nat), (p.eraseIdx j).length + wP (p.eraseIdx j) ≤ p.length + wP p
  | [], j => by simp
  | c :: p, 0 => by simp [wP]; omega
  | c :: p, j + 1 => by
    have := erase_w p j
    simp only [List.eraseIdx_cons_succ, List.length_cons, wP]
    omega
theorem i_DropClause_calls {p : List C} {S : Store} {v : Value} (i : Int) (h : RdSl S 5 (RdC S) v p) (hw : p.length + wP p ≤ 1048576) : Tri Try.prog n_i_DropClause [v, .int .i64 i] [] S (PostCB S (dropPs p i) (dropB p i)) := by
  intro w hI
  refine calls_i_DropClause ?_
  unfold sh_i_DropClause
  refine ⟨fun t w' => t = .bool (!dropB p i) ∧ Inv w [] [] S w', ?_, ?_⟩
  · refine Run.callPure fn_i_ProgramValid nm_i_ProgramValid hI (iProgramValid_calls h) fun w' hI => ?_
    refine r_not ?_
    cases hv : progB p
    · repeat (first | refine guard_true ?_ | refine guard_ne (by decide) ?_ | refine guard_undef ?_ | refine r_pickT ?_ | refine r_pickF ?_)
      exact ⟨by rw [dropB, hv]; rfl, hI⟩
    · repeat (first | refine guard_true ?_ | refine guard_ne (by decide) ?_ | refine guard_undef ?_ | refine r_pickT ?_ | refine r_pickF ?_)
      refine r_lenSl h sl_SiClause ?_
      refine r_sub (by omega) ?_
      refine Run.callPure fn_i_within nm_i_within hI (within_calls _ _ _ S) fun w' hI => ?_
      refine r_not ?_
      repeat (first | refine guard_true ?_ | refine guard_ne (by decide) ?_ | refine guard_undef ?_ | refine r_pickT ?_ | refine r_pickF ?_)
      refine ⟨?_, hI⟩
      have e : decide (i ≤ (p.length : Int) - 1) = decide (i < (p.length : Int)) := by
        rw [Bool.eq_iff_iff]
        simp only [decide_eq_true_eq]
        omega
      rw [dropB, hv, e]; rfl
  intro t _ _ _ _ _ _ _ _ _ _ w'
  rintro ⟨rfl, hI⟩
  rw [dropPs]
  cases hd : dropB p i
  · refine condV (fun _ => ?_) (fun hb => by cases hb)
    rw [if_neg (by decide)]
    exact ⟨_, _, _, rfl, hI, Ext.refl _ _ _, rfl, _, [], rfl, rfl, TrSl.nil (by simp [maxLen])⟩
  refine condV (fun hb => by cases hb) (fun _ => ?_)
  rw [if_pos rfl]
  obtain ⟨j, rfl, hj⟩ := dropB_iff hd
  refine Run.call0 fn_i_ownProgram nm_i_ownProgram hI (ownProgram_calls h hw) fun v3 I' S' w' => ?_
  rintro ⟨rfl, L, rfl, hT⟩ _ hI
  refine r_add (by omega) ?_
  refine Run.call (A := []) fn_x_Delete_Clause nm_x_Delete_Clause hI (Delete_calls hT hj (by omega)) fun v4 I' S2 w' => ?_
  rintro ⟨rfl, L', rfl, hT'⟩ _ hI
  exact ⟨_, _, _, rfl, hI, Ext.refl _ _ _, rfl, _, L', rfl, rfl, hT'⟩
def dcItems (r0 r4 r9 : Item) (M : Heaplet) (d0 d4 d9 d10 : Bool) : List Item := match d10, d9, d4, d0 with
  | true, _, _, _ => blks M
  | false, true, _, _ => [r9]
  | false, false, true, _ => [r4]
  | false, false, false, true => [r0]
  | false, false, false, false => []
theorem s_DropClause_calls {p : List C} {S : Store} {v : Value} (i : Int) (h : RdSl S 5 (RdC S) v p) (hw : p.length + wP p ≤ 1048576) : Tri Try.prog n_s_DropClause [v, .int .i64 i] [] S (PostCB S (dropPs p i) (dropB p i)) := by
  intro w hI
  refine calls_s_DropClause ?_
  unfold sh_s_DropClause
  refine ⟨fun t w' => t = .bool (!dropB p i) ∧ Inv w [] [] S w', ?_, ?_⟩
  · refine Run.callPure fn_s_ProgramValid nm_s_ProgramValid hI (s_ProgramValid_calls h (by omega)) fun w' hI => ?_
    refine r_not ?_
    cases hv : progB p
    · repeat (first | refine guard_true ?_ | refine guard_ne (by decide) ?_ | refine guard_undef ?_ | refine r_pickT ?_ | refine r_pickF ?_)
      exact ⟨by rw [dropB, hv]; rfl, hI⟩
    · repeat (first | refine guard_true ?_ | refine guard_ne (by decide) ?_ | refine guard_undef ?_ | refine r_pickT ?_ | refine r_pickF ?_)
      refine r_lss ?_
      by_cases h0 : i < 0
      · rw [decide_eq_true h0]
        repeat (first | refine guard_true ?_ | refine guard_ne (by decide) ?_ | refine guard_undef ?_ | refine r_pickT ?_ | refine r_pickF ?_)
        exact ⟨by rw [dropB, hv, decide_eq_false (show ¬ 0 ≤ i by omega)]; rfl, hI⟩
      · rw [decide_eq_false h0]
        repeat (first | refine guard_true ?_ | refine guard_ne (by decide) ?_ | refine guard_undef ?_ | refine r_pickT ?_ | refine r_pickF ?_)
        refine r_lenSl h sl_SiClause ?_
        refine r_geq ?_
        repeat (first | refine guard_true ?_ | refine guard_ne (by decide) ?_ | refine guard_undef ?_ | refine r_pickT ?_ | refine r_pickF ?_)
        refine ⟨?_, hI⟩
        have e : decide ((p.length : Int) ≤ i) = !decide (i < (p.length : Int)) := by
          by_cases h1 : i < (p.length : Int)
          · rw [decide_eq_true h1, decide_eq_false (by omega)]; rfl
          · rw [decide_eq_false h1, decide_eq_true (by omega)]; rfl
        rw [dropB, hv, decide_eq_true (show 0 ≤ i by omega), e]; rfl
  intro t _ _ _ _ _ _ _ _ _ _ _ _ w'
  rintro ⟨rfl, hI⟩
  rw [dropPs]
  cases hd : dropB p i
  · refine condV (fun _ => ?_) (fun hb => by cases hb)
    refine r_slice0 hI mk_SiClause fun v0 w' hI => ?_
    rw [if_neg (by decide)]
    have hI : Inv w [] ([] ++ (rowG v0 t_iClause 5 [] :: blks ([] : List Heaplet).flatten)) S w' := hI
    obtain ⟨L, hT, hI⟩ := Inv.rowTree (R := TrC) hI (Grown.nil 5 TrC)
    exact ⟨_, _, _, rfl, hI, Ext.refl _ _ _, rfl, _, L, rfl, rfl, hT⟩
  refine condV (fun hb => by cases hb) (fun _ => ?_)
  rw [if_pos rfl]
  obtain ⟨j, rfl, hj⟩ := dropB_iff hd
  rw [Int.toNat_natCast]
  have hew := erase_w p j
  have hle := h.le
  simp only [maxLen] at hle
  refine ⟨fun D x5 x4 x30 x29 x28 x27 x26 x25 x24 x23 x22 x21 x20 w_ => (D 0 = true → True) ∧ (D 1 = true → x21 = v) ∧ (D 2 = true → x22 = .int .i64 j) ∧ (D 3 = true → True) ∧ (D 4 = true → True) ∧ (D 5 = true → x25 = v) ∧ (D 6 = true → x26 = .int .i64 j) ∧ (D 7 = true → x27 = .int .i64 ((j + 1 : Nat) : Int)) ∧ (D 8 = true → True) ∧ (D 9 = true → True) ∧ (D 10 = true → True) ∧ (D 11 = true → True) ∧ (D 12 = true → x5 = .bool true) ∧ ∃ c1 c2 M, (D 3 = true → RdSl S 5 (RdC S) x23 (p.take j)) ∧ (D 8 = true → RdSl S 5 (RdC S) x28 (p.drop (j + 1))) ∧ (D 4 = true → Rows 5 (RdC S) c1 (p.take j)) ∧ (D 9 = true → Rows 5 (RdC S) c2 (p.drop (j + 1))) ∧ (D 10 = true → TrSl 5 TrC M x30 (p.eraseIdx j)) ∧ (D 11 = true → x4 = x30) ∧ (D 4 = true → D 0 = true) ∧ (D 9 = true → D 4 = true) ∧ (D 10 = true → D 9 = true) ∧ (D 11 = true → D 10 = true) ∧ Inv w [] (dcItems (rowG x20 t_iClause 5 []) (rowG x24 t_iClause 5 c1) (rowG x29 t_iClause 5 (c1 ++ c2)) M (D 0) (D 4) (D 9) (D 10)) S w_, ⟨fun h => Bool.noConfusion h, fun h => Bool.noConfusion h, fun h => Bool.noConfusion h, fun h => Bool.noConfusion h, fun h => Bool.noConfusion h, fun h => Bool.noConfusion h, fun h => Bool.noConfusion h, fun h => Bool.noConfusion h, fun h => Bool.noConfusion h, fun h => Bool.noConfusion h, fun h => Bool.noConfusion h, fun h => Bool.noConfusion h, fun h => Bool.noConfusion h, ⟨[], [], [], fun h => Bool.noConfusion h, fun h => Bool.noConfusion h, fun h => Bool.noConfusion h, fun h => Bool.noConfusion h, fun h => Bool.noConfusion h, fun h => Bool.noConfusion h, fun h => Bool.noConfusion h, fun h => Bool.noConfusion h, fun h => Bool.noConfusion h, fun h => Bool.noConfusion h, hI.draw⟩⟩, ⟨?_, ?_, ?_, ?_, ?_, ?_, ?_, ?_, ?_, ?_, ?_, ?_, ?_, trivial⟩, ?_⟩
  · intro D hD_  x5 x4 x30 x29 x28 x27 x26 x25 x24 x23 x22 x21 x20 w_
    rintro ⟨h0_, h1_, h2_, h3_, h4_, h5_, h6_, h7_, h8_, h9_, h10_, h11_, h12_, ⟨c1, c2, M, e3, e8, e4, e9, e10, e11, k4, k9, k10, k11, hI⟩⟩
    have f4 : D 4 = false := Bool.eq_false_iff.2 fun h => by rw [k4 h] at hD_; cases hD_
    have f9 : D 9 = false := Bool.eq_false_iff.2 fun h => by rw [k9 h] at f4; cases f4
    have f10 : D 10 = false := Bool.eq_false_iff.2 fun h => by rw [k10 h] at f9; cases f9
    rw [hD_, f4, f9, f10] at hI
    refine r_slice0 hI mk_SiClause fun v0 w_ hI => ?_
    have k4 := fun (_ : setD D 0 4 = true) => (rfl : setD D 0 0 = true)
    have hI : Inv w [] (dcItems (rowG v0 t_iClause 5 []) (rowG x24 t_iClause 5 c1) (rowG x29 t_iClause 5 (c1 ++ c2)) M true (D 4) (D 9) (D 10)) S w_ := by
      rw [f4, f9, f10]
      exact hI
    exact ⟨fun _ => by first | assumption | trivial, h1_, h2_, h3_, h4_, h5_, h6_, h7_, h8_, h9_, h10_, h11_, h12_, ⟨c1, c2, M, e3, e8, e4, e9, e10, e11, k4, k9, k10, k11, hI⟩⟩
  · intro D hD_  x5 x4 x30 x29 x28 x27 x26 x25 x24 x23 x22 x21 x20 w_
    rintro ⟨h0_, h1_, h2_, h3_, h4_, h5_, h6_, h7_, h8_, h9_, h10_, h11_, h12_, ⟨c1, c2, M, e3, e8, e4, e9, e10, e11, k4, k9, k10, k11, hI⟩⟩
    exact ⟨h0_, fun _ => rfl, h2_, h3_, h4_, h5_, h6_, h7_, h8_, h9_, h10_, h11_, h12_, ⟨c1, c2, M, e3, e8, e4, e9, e10, e11, k4, k9, k10, k11, hI⟩⟩
  · intro D hD_  x5 x4 x30 x29 x28 x27 x26 x25 x24 x23 x22 x21 x20 w_
    rintro ⟨h0_, h1_, h2_, h3_, h4_, h5_, h6_, h7_, h8_, h9_, h10_, h11_, h12_, ⟨c1, c2, M, e3, e8, e4, e9, e10, e11, k4, k9, k10, k11, hI⟩⟩
    exact ⟨h0_, h1_, fun _ => rfl, h3_, h4_, h5_, h6_, h7_, h8_, h9_, h10_, h11_, h12_, ⟨c1, c2, M, e3, e8, e4, e9, e10, e11, k4, k9, k10, k11, hI⟩⟩
  · intro D hD_ d1_0 d2_1 x5 x4 x30 x29 x28 x27 x26 x25 x24 x23 x22 x21 x20 w_
    rintro ⟨h0_, h1_, h2_, h3_, h4_, h5_, h6_, h7_, h8_, h9_, h10_, h11_, h12_, ⟨c1, c2, M, e3, e8, e4, e9, e10, e11, k4, k9, k10, k11, hI⟩⟩
    obtain rfl := h1_ d1_0
    obtain rfl := h2_ d2_1
    refine r_sliceTo sl_SiClause h (by omega) fun v3 e3 => ?_
    have e3 := fun (_ : setD D 3 3 = true) => e3
    exact ⟨h0_, h1_, h2_, fun _ => by first | assumption | trivial, h4_, h5_, h6_, h7_, h8_, h9_, h10_, h11_, h12_, ⟨c1, c2, M, e3, e8, e4, e9, e10, e11, k4, k9, k10, k11, hI⟩⟩
  · intro D hD_ d0_0 d3_1 x5 x4 x30 x29 x28 x27 x26 x25 x24 x23 x22 x21 x20 w_
    rintro ⟨h0_, h1_, h2_, h3_, h4_, h5_, h6_, h7_, h8_, h9_, h10_, h11_, h12_, ⟨c1, c2, M, e3, e8, e4, e9, e10, e11, k4, k9, k10, k11, hI⟩⟩
    have g0_ := h0_ d0_0
    have g3_ := h3_ d3_1
    have f9 : D 9 = false := Bool.eq_false_iff.2 fun h => by rw [k9 h] at hD_; cases hD_
    have f10 : D 10 = false := Bool.eq_false_iff.2 fun h => by rw [k10 h] at f9; cases f9
    rw [d0_0, hD_, f9, f10] at hI
    refine r_appendRd hI 0 mk_SiClause (by omega) rfl (e3 d3_1) (fun _ _ => RdC.length) (fun _ _ => RdC.one) (by simp; omega) (by omega) fun v4 w_ c1 hR hI => ?_
    have e4 := fun (_ : setD D 4 4 = true) => hR
    have k4 := fun (_ : setD D 4 4 = true) => d0_0
    have k9 := fun (_ : setD D 4 9 = true) => (rfl : setD D 4 4 = true)
    have hI : Inv w [] (dcItems (rowG x20 t_iClause 5 []) (rowG v4 t_iClause 5 c1) (rowG x29 t_iClause 5 (c1 ++ c2)) M (D 0) true (D 9) (D 10)) S w_ := by
      rw [d0_0, f9, f10]
      exact hI
    exact ⟨h0_, h1_, h2_, h3_, fun _ => by first | assumption | trivial, h5_, h6_, h7_, h8_, h9_, h10_, h11_, h12_, ⟨c1, c2, M, e3, e8, e4, e9, e10, e11, k4, k9, k10, k11, hI⟩⟩
  · intro D hD_  x5 x4 x30 x29 x28 x27 x26 x25 x24 x23 x22 x21 x20 w_
    rintro ⟨h0_, h1_, h2_, h3_, h4_, h5_, h6_, h7_, h8_, h9_, h10_, h11_, h12_, ⟨c1, c2, M, e3, e8, e4, e9, e10, e11, k4, k9, k10, k11, hI⟩⟩
    exact ⟨h0_, h1_, h2_, h3_, h4_, fun _ => rfl, h6_, h7_, h8_, h9_, h10_, h11_, h12_, ⟨c1, c2, M, e3, e8, e4, e9, e10, e11, k4, k9, k10, k11, hI⟩⟩
  · intro D hD_  x5 x4 x30 x29 x28 x27 x26 x25 x24 x23 x22 x21 x20 w_
    rintro ⟨h0_, h1_, h2_, h3_, h4_, h5_, h6_, h7_, h8_, h9_, h10_, h11_, h12_, ⟨c1, c2, M, e3, e8, e4, e9, e10, e11, k4, k9, k10, k11, hI⟩⟩
    exact ⟨h0_, h1_, h2_, h3_, h4_, h5_, fun _ => rfl, h7_, h8_, h9_, h10_, h11_, h12_, ⟨c1, c2, M, e3, e8, e4, e9, e10, e11, k4, k9, k10, k11, hI⟩⟩
  · intro D hD_ d6_0 x5 x4 x30 x29 x28 x27 x26 x25 x24 x23 x22 x21 x20 w_
    rintro ⟨h0_, h1_, h2_, h3_, h4_, h5_, h6_, h7_, h8_, h9_, h10_, h11_, h12_, ⟨c1, c2, M, e3, e8, e4, e9, e10, e11, k4, k9, k10, k11, hI⟩⟩
    obtain rfl := h6_ d6_0
    refine r_add (by omega) ?_; rw [show ((j : Int) + 1) = ((j + 1 : Nat) : Int) by omega]
    exact ⟨h0_, h1_, h2_, h3_, h4_, h5_, h6_, fun _ => rfl, h8_, h9_, h10_, h11_, h12_, ⟨c1, c2, M, e3, e8, e4, e9, e10, e11, k4, k9, k10, k11, hI⟩⟩
  · intro D hD_ d5_0 d7_1 x5 x4 x30 x29 x28 x27 x26 x25 x24 x23 x22 x21 x20 w_
    rintro ⟨h0_, h1_, h2_, h3_, h4_, h5_, h6_, h7_, h8_, h9_, h10_, h11_, h12_, ⟨c1, c2, M, e3, e8, e4, e9, e10, e11, k4, k9, k10, k11, hI⟩⟩
    obtain rfl := h5_ d5_0
    obtain rfl := h7_ d7_1
    refine r_sliceFrom sl_SiClause h (by omega) fun v8 e8 => ?_
    have e8 := fun (_ : setD D 8 8 = true) => e8
    exact ⟨h0_, h1_, h2_, h3_, h4_, h5_, h6_, h7_, fun _ => by first | assumption | trivial, h9_, h10_, h11_, h12_, ⟨c1, c2, M, e3, e8, e4, e9, e10, e11, k4, k9, k10, k11, hI⟩⟩
  · intro D hD_ d4_0 d8_1 d4_2 x5 x4 x30 x29 x28 x27 x26 x25 x24 x23 x22 x21 x20 w_
    rintro ⟨h0_, h1_, h2_, h3_, h4_, h5_, h6_, h7_, h8_, h9_, h10_, h11_, h12_, ⟨c1, c2, M, e3, e8, e4, e9, e10, e11, k4, k9, k10, k11, hI⟩⟩
    have g4_ := h4_ d4_0
    have g8_ := h8_ d8_1
    have f10 : D 10 = false := Bool.eq_false_iff.2 fun h => by rw [k10 h] at hD_; cases hD_
    rw [d4_0, hD_, f10] at hI
    have hc1 := (e4 d4_0).hc
    refine r_appendRd hI 0 mk_SiClause (by omega) rfl (e8 d8_1) (fun _ _ => RdC.length) (fun _ _ => RdC.one) (by simp at hc1 ⊢; omega) (by omega) fun v9 w_ c2 hR hI => ?_
    have e9 := fun (_ : setD D 9 9 = true) => hR
    have k9 := fun (_ : setD D 9 9 = true) => d4_0
    have k10 := fun (_ : setD D 9 10 = true) => (rfl : setD D 9 9 = true)
    have hI : Inv w [] (dcItems (rowG x20 t_iClause 5 []) (rowG x24 t_iClause 5 c1) (rowG v9 t_iClause 5 (c1 ++ c2)) M (D 0) (D 4) true (D 10)) S w_ := by
      rw [d4_0, f10]
      exact hI
    exact ⟨h0_, h1_, h2_, h3_, h4_, h5_, h6_, h7_, h8_, fun _ => by first | assumption | trivial, h10_, h11_, h12_, ⟨c1, c2, M, e3, e8, e4, e9, e10, e11, k4, k9, k10, k11, hI⟩⟩
  · intro D hD_ d9_0 d9_1 x5 x4 x30 x29 x28 x27 x26 x25 x24 x23 x22 x21 x20 w_
    rintro ⟨h0_, h1_, h2_, h3_, h4_, h5_, h6_, h7_, h8_, h9_, h10_, h11_, h12_, ⟨c1, c2, M, e3, e8, e4, e9, e10, e11, k4, k9, k10, k11, hI⟩⟩
    have g9_ := h9_ d9_0
    rw [d9_0, hD_] at hI
    have f11 : D 11 = false := Bool.eq_false_iff.2 fun h => by rw [k11 h] at hD_; cases hD_
    have hR := (e4 (k9 d9_0)).append (e9 d9_0)
    rw [← List.eraseIdx_eq_take_drop_succ] at hR
    have hI : Inv w [] ([] ++ [rowG x29 t_iClause 5 (c1 ++ c2)]) S w_ := hI
    obtain ⟨S1, hle1, hrd, hI, _⟩ := hI.lend
    have hrr : RdSl S1 5 (RdC S1) x29 (p.eraseIdx j) := (RowRd.rows hR hrd).mono (Sle.refl _) fun _ _ h => h.mono hle1
    refine Run.call0 fn_s_l14Copy nm_s_l14Copy hI (l14Copy_calls hrr (by omega)) fun v10 I' S' w_ => ?_
    rintro ⟨rfl, M, rfl, hT⟩ _ hI
    have hI := hI.less hle1
    have e10 := fun (_ : setD D 10 10 = true) => hT
    have e11 : setD D 10 11 = true → x4 = v10 := fun h => absurd h (by rw [show setD D 10 11 = D 11 from rfl, f11]; decide)
    have k10 := fun (_ : setD D 10 10 = true) => d9_0
    have k11 := fun (_ : setD D 10 11 = true) => (rfl : setD D 10 10 = true)
    exact ⟨h0_, h1_, h2_, h3_, h4_, h5_, h6_, h7_, h8_, h9_, fun _ => by first | assumption | trivial, h11_, h12_, ⟨c1, c2, M, e3, e8, e4, e9, e10, e11, k4, k9, k10, k11, hI⟩⟩
  · intro D hD_ d10_0 d10_1 d0_2 d1_3 d2_4 d3_5 d4_6 d5_7 d6_8 d7_9 d8_10 d9_11 d10_12 x5 x4 x30 x29 x28 x27 x26 x25 x24 x23 x22 x21 x20 w_
    rintro ⟨h0_, h1_, h2_, h3_, h4_, h5_, h6_, h7_, h8_, h9_, h10_, h11_, h12_, ⟨c1, c2, M, e3, e8, e4, e9, e10, e11, k4, k9, k10, k11, hI⟩⟩
    have g10_ := h10_ d10_0
    have e11 := fun (_ : setD D 11 11 = true) => (rfl : x30 = x30)
    have k11 := fun (_ : setD D 11 11 = true) => d10_0
    exact ⟨h0_, h1_, h2_, h3_, h4_, h5_, h6_, h7_, h8_, h9_, h10_, fun _ => by first | assumption | trivial, h12_, ⟨c1, c2, M, e3, e8, e4, e9, e10, e11, k4, k9, k10, k11, hI⟩⟩
  · intro D hD_ d11_0 d0_1 d1_2 d2_3 d3_4 d4_5 d5_6 d6_7 d7_8 d8_9 d9_10 d10_11 d11_12 x5 x4 x30 x29 x28 x27 x26 x25 x24 x23 x22 x21 x20 w_
    rintro ⟨h0_, h1_, h2_, h3_, h4_, h5_, h6_, h7_, h8_, h9_, h10_, h11_, h12_, ⟨c1, c2, M, e3, e8, e4, e9, e10, e11, k4, k9, k10, k11, hI⟩⟩
    exact ⟨h0_, h1_, h2_, h3_, h4_, h5_, h6_, h7_, h8_, h9_, h10_, h11_, fun _ => rfl, ⟨c1, c2, M, e3, e8, e4, e9, e10, e11, k4, k9, k10, k11, hI⟩⟩
  intro D d12_ d11_ d10_ d9_ d8_ d7_ d6_ d5_ d4_ d3_ d2_ d1_ d0_ x5 x4 x30 x29 x28 x27 x26 x25 x24 x23 x22 x21 x20 w_
  rintro ⟨h0_, h1_, h2_, h3_, h4_, h5_, h6_, h7_, h8_, h9_, h10_, h11_, h12_, ⟨c1, c2, M, e3, e8, e4, e9, e10, e11, k4, k9, k10, k11, hI⟩⟩
  obtain rfl := h12_ d12_
  have g11_ := h11_ d11_
  have g10_ := h10_ d10_
  have g9_ := h9_ d9_
  have g8_ := h8_ d8_
  obtain rfl := h7_ d7_
  obtain rfl := h6_ d6_
  obtain rfl := h5_ d5_
  have g4_ := h4_ d4_
  have g3_ := h3_ d3_
  obtain rfl := h2_ d2_
  obtain rfl := h1_ d1_
  have g0_ := h0_ d0_
  clear h0_ h1_ h2_ h3_ h4_ h5_ h6_ h7_ h8_ h9_ h10_ h11_ h12_
  have hT := e10 d10_
  have q4 := e11 d11_
  subst q4
  rw [d10_] at hI
  exact ⟨_, _, _, rfl, hI, Ext.refl _ _ _, rfl, _, M, rfl, rfl, hT⟩

end Go.Proofs.Ytnoieadimkgjcaa

/- spec.RenumberClause. -/
namespace Go.Proofs.Ytnoieadimkgjcaa
open Go Go.RowKit
section
attribute [local irreducible] Run CondV GuardV LoadV
theorem lastI_in {vs : List Int} {n : Int} (hn : inI n) (hl : vs.length ≤ 1000000000) : inI (lastI vs n n 0) := by
  rcases lastI_rng vs n n 0 with h | h
  · rw [h]; exact hn
  · simp only [inI] at hn ⊢; omega
theorem l1Rename_calls (vs : List Int) (hvl : vs.length ≤ 1000000000) : ∀ (t : T) (S : Store) (cs : List Value) (v : Value), RdT S cs t → RdSl S 1 RdInt v vs → wT t ≤ 1048576 → Tri Try.prog n_s_l1Rename [.agg cs.toArray, v] [] S (PostT S (srenT vs t)) := by
  refine T.ind fun k n s ks ih S cs v h hv hw => ?_
  intro w hI
  obtain ⟨kv, rfl, h1, h2, hs, hks⟩ := RdT.iff.1 h
  simp only [T.name, T.kids, T.kind, T.n] at h1 h2 hs hks ⊢
  simp only [wT] at hw
  obtain ⟨N, hN⟩ : ∃ N, N = if k = 1 then lastI vs n n 0 else n := ⟨_, rfl⟩
  have hNi : inI N := by
    rw [hN]
    split
    · exact lastI_in h2 hvl
    · exact h2
  refine calls_s_l1Rename ?_
  unfold sh_s_l1Rename
  refine r_box hI fun b1 w' hI => ?_
  refine r_alloc hI zo_iTerm fun b2 w' hI => ?_
  refine r_fieldL hI 0 rfl fo_iTerm_0 sc_int rfl ?_
  refine r_fieldL hI 0 rfl fo_iTerm_1 sc_int rfl ?_
  refine r_fieldL hI 0 rfl fo_iTerm_2 sc_string rfl ?_
  refine r_buildTerm ?_
  refine r_alloc hI zo_iTerm fun b3 w' hI => ?_
  refine r_storeW hI 2 rfl ag_iTerm rfl rfl (by simp [Value.oneCell']) fun w' hI => ?_
  refine ⟨fun i w' => ∃ (j : Nat) (cur : Int), j ≤ vs.length ∧ i = .int .i64 j ∧ (if k = 1 then lastI (vs.drop j) n cur j else cur) = N ∧
      Inv w [] [.blk b1 (.cells #[.int .i64 k, .int .i64 n, .string s, kv] t_iTerm), .blk b2 (.cells #[.int .i64 0, .int .i64 0, .string ⟨#[]⟩, .slice none 0 0] t_iTerm), .blk b3 (.cells #[.int .i64 k, .int .i64 cur, .string s, .slice none 0 0] t_iTerm)] S w',
    fun i _ => vs.length - (intOf i).toNat, ⟨0, n, Nat.zero_le _, rfl, hN.symm, hI⟩, ?_⟩
  intro t6 _ _ _ _ _ _ _ _ _ _ _ _ _ _ _ _ _ _ _ _ w'
  rintro ⟨j, cur, hj, rfl, hrel, hI⟩
  refine ⟨fun t w' => t = .bool (decide (j < vs.length) && decide (k = 1)) ∧ Inv w [] [.blk b1 (.cells #[.int .i64 k, .int .i64 n, .string s, kv] t_iTerm), .blk b2 (.cells #[.int .i64 0, .int .i64 0, .string ⟨#[]⟩, .slice none 0 0] t_iTerm), .blk b3 (.cells #[.int .i64 k, .int .i64 cur, .string s, .slice none 0 0] t_iTerm)] S w', ?_, ?_⟩
  · refine r_lenSl hv sl_Sint ?_
    refine r_lss ?_
    by_cases hji : j < vs.length
    · rw [decide_eq_true (show (j : Int) < (vs.length : Int) by omega)]
      repeat (first | refine guard_true ?_ | refine guard_ne (by decide) ?_ | refine guard_undef ?_ | refine r_pickT ?_ | refine r_pickF ?_)
      refine r_fieldL hI 0 rfl fo_iTerm_0 sc_int rfl ?_
      refine r_eql ?_
      repeat (first | refine guard_true ?_ | refine guard_ne (by decide) ?_ | refine guard_undef ?_ | refine r_pickT ?_ | refine r_pickF ?_)
      exact ⟨by rw [decide_eq_true hji]; rfl, hI⟩
    · rw [decide_eq_false (show ¬ (j : Int) < (vs.length : Int) by omega)]
      repeat (first | refine guard_true ?_ | refine guard_ne (by decide) ?_ | refine guard_undef ?_ | refine r_pickT ?_ | refine r_pickF ?_)
      exact ⟨by rw [decide_eq_false hji]; rfl, hI⟩
  intro t _ _ _ _ _ _ _ _ w'
  rintro ⟨rfl, hI⟩
  refine condV (fun hb => ?_) (fun hb => ?_)
  · simp only [Bool.and_eq_true, decide_eq_true_eq] at hb
    obtain ⟨hji, hk⟩ := hb
    rw [if_pos hk, List.drop_eq_getElem_cons hji, lastI] at hrel
    refine ⟨fun w' => Inv w [] [.blk b1 (.cells #[.int .i64 k, .int .i64 n, .string s, kv] t_iTerm), .blk b2 (.cells #[.int .i64 0, .int .i64 0, .string ⟨#[]⟩, .slice none 0 0] t_iTerm), .blk b3 (.cells #[.int .i64 k, .int .i64 (if vs[j] = n then (j : Int) else cur), .string s, .slice none 0 0] t_iTerm)] S w', ?_, ?_⟩
    · obtain ⟨b, o, cap, c, E, fz, rfl, hS, hR⟩ := hv.at_ hji
      refine ⟨fun D x32 x31 x30 x29 x28 x27 x26 w_ => (D 0 = true → x26 = .slice (some ⟨b, o, none⟩) vs.length cap) ∧ (D 1 = true → x27 = .int .i64 j) ∧ (D 2 = true → x28 = .pointer (some ⟨b, o + j * 1, none⟩)) ∧ (D 3 = true → x29 = .int .i64 vs[j]) ∧ (D 4 = true → x30 = .pointer (some ⟨b1, 1, none⟩)) ∧ (D 5 = true → x31 = .int .i64 n) ∧ (D 6 = true → x32 = .bool (decide (vs[j] = n))) ∧ Inv w [] [.blk b1 (.cells #[.int .i64 k, .int .i64 n, .string s, kv] t_iTerm), .blk b2 (.cells #[.int .i64 0, .int .i64 0, .string ⟨#[]⟩, .slice none 0 0] t_iTerm), .blk b3 (.cells #[.int .i64 k, .int .i64 cur, .string s, .slice none 0 0] t_iTerm)] S w_, ⟨fun h => Bool.noConfusion h, fun h => Bool.noConfusion h, fun h => Bool.noConfusion h, fun h => Bool.noConfusion h, fun h => Bool.noConfusion h, fun h => Bool.noConfusion h, fun h => Bool.noConfusion h, hI.draw⟩, ⟨?_, ?_, ?_, ?_, ?_, ?_, ?_, trivial⟩, ?_⟩
      · intro D hD_  x32 x31 x30 x29 x28 x27 x26 w_
        rintro ⟨h0_, h1_, h2_, h3_, h4_, h5_, h6_, hI⟩
        exact ⟨fun _ => rfl, h1_, h2_, h3_, h4_, h5_, h6_, hI⟩
      · intro D hD_  x32 x31 x30 x29 x28 x27 x26 w_
        rintro ⟨h0_, h1_, h2_, h3_, h4_, h5_, h6_, hI⟩
        exact ⟨h0_, fun _ => rfl, h2_, h3_, h4_, h5_, h6_, hI⟩
      · intro D hD_ d0_0 d1_1 x32 x31 x30 x29 x28 x27 x26 w_
        rintro ⟨h0_, h1_, h2_, h3_, h4_, h5_, h6_, hI⟩
        obtain rfl := h0_ d0_0
        obtain rfl := h1_ d1_1
        refine r_indexAddr sl_Sint hji ?_
        exact ⟨h0_, h1_, fun _ => rfl, h3_, h4_, h5_, h6_, hI⟩
      · intro D hD_ d2_0 x32 x31 x30 x29 x28 x27 x26 w_
        rintro ⟨h0_, h1_, h2_, h3_, h4_, h5_, h6_, hI⟩
        obtain rfl := h2_ d2_0
        refine r_load sc_int (by rw [hI.cellS hS]; exact cellsAt_get hR 0 _ rfl) ?_
        exact ⟨h0_, h1_, h2_, fun _ => rfl, h4_, h5_, h6_, hI⟩
      · intro D hD_  x32 x31 x30 x29 x28 x27 x26 w_
        rintro ⟨h0_, h1_, h2_, h3_, h4_, h5_, h6_, hI⟩
        refine r_field fo_iTerm_1 ?_
        exact ⟨h0_, h1_, h2_, h3_, fun _ => rfl, h5_, h6_, hI⟩
      · intro D hD_ d4_0 x32 x31 x30 x29 x28 x27 x26 w_
        rintro ⟨h0_, h1_, h2_, h3_, h4_, h5_, h6_, hI⟩
        obtain rfl := h4_ d4_0
        refine r_loadL hI 0 sc_int rfl rfl ?_
        exact ⟨h0_, h1_, h2_, h3_, h4_, fun _ => rfl, h6_, hI⟩
      · intro D hD_ d3_0 d5_1 x32 x31 x30 x29 x28 x27 x26 w_
        rintro ⟨h0_, h1_, h2_, h3_, h4_, h5_, h6_, hI⟩
        obtain rfl := h3_ d3_0
        obtain rfl := h5_ d5_1
        refine r_eql ?_
        exact ⟨h0_, h1_, h2_, h3_, h4_, h5_, fun _ => rfl, hI⟩
      intro D d6_ d5_ d4_ d3_ d2_ d1_ d0_ x32 x31 x30 x29 x28 x27 x26 w_
      rintro ⟨h0_, h1_, h2_, h3_, h4_, h5_, h6_, hI⟩
      obtain rfl := h6_ d6_
      obtain rfl := h5_ d5_
      obtain rfl := h4_ d4_
      obtain rfl := h3_ d3_
      obtain rfl := h2_ d2_
      obtain rfl := h1_ d1_
      obtain rfl := h0_ d0_
      clear h0_ h1_ h2_ h3_ h4_ h5_ h6_
      refine condP (fun he => ?_) (fun he => ?_)
      · rw [if_pos he]
        exact r_fieldSt hI 2 rfl fo_iTerm_1 sc_int rfl rfl rfl fun w' hI => hI
      · rw [if_neg he]
        exact hI
    intro _ _ _ _ _ _ _ _ _ w' hI
    refine r_add (by omega) ?_
    exact ⟨⟨j + 1, _, hji, rfl, by rw [if_pos hk]; exact hrel, hI⟩, by simp [intOf]; omega⟩
  have hcur : cur = N := by
    by_cases hk : k = 1
    · rw [if_pos hk] at hrel
      have : j = vs.length := by
        have : decide (j < vs.length) = false := by
          rw [decide_eq_true hk, Bool.and_true] at hb
          exact hb
        have := of_decide_eq_false this
        omega
      rw [this, List.drop_length] at hrel
      exact hrel
    · rw [if_neg hk] at hrel
      exact hrel
  clear hrel hb
  subst hcur
  have hI := hI.rowNil t_iTerm 4
  refine ⟨fun i w' => ∃ (j : Nat) (kvc : Value) (Ls : List Heaplet) (css : List (List Value)), j ≤ ks.length ∧ i = .int .i64 j ∧ Grown 4 TrT Ls css (srenL vs (ks.take j)) ∧
      Inv w [] (.blk b1 (.cells #[.int .i64 k, .int .i64 n, .string s, kv] t_iTerm) :: .blk b2 (.cells #[.int .i64 0, .int .i64 0, .string ⟨#[]⟩, .slice none 0 0] t_iTerm) :: .blk b3 (.cells #[.int .i64 k, .int .i64 cur, .string s, kvc] t_iTerm) :: rowG kvc t_iTerm 4 css :: blks Ls.flatten) S w',
    fun i _ => ks.length - (intOf i).toNat, ⟨0, _, [], [], Nat.zero_le _, rfl, Grown.nil _ _, hI⟩, ?_⟩
  intro t7 _ _ _ _ _ _ _ _ _ _ _ _ _ _ _ _ _ _ _ w'
  rintro ⟨j, kvc, Ls, css, hj, rfl, hg, hI⟩
  refine r_fieldL hI 0 rfl fo_iTerm_3 sc_SiTerm rfl ?_
  refine r_lenSl hks sl_SiTerm ?_
  refine r_lss ?_
  refine condP (fun hji => ?_) (fun hji => ?_)
  · have hj' : j < ks.length := by omega
    have hjl : (ks.take j).length = j := by simp; omega
    have hcl := hg.hc
    rw [srenL_len] at hcl
    have hm := List.getElem_mem hj'
    have hwm := wL_mem hm
    obtain ⟨b, o, cap, c, E, fz, rfl, hS, hR⟩ := hks.at_ hj'
    refine ⟨fun D x53 x52 x51 x50 x49 x48 x47 x46 x45 x44 x43 x42 w_ => (D 0 = true → x42 = .pointer (some ⟨b3, 3, none⟩)) ∧ (D 1 = true → x43 = kvc) ∧ (D 2 = true → x44 = .pointer (some ⟨b1, 3, none⟩)) ∧ (D 3 = true → x45 = .slice (some ⟨b, o, none⟩) ks.length cap) ∧ (D 4 = true → x46 = .int .i64 j) ∧ (D 5 = true → x47 = .pointer (some ⟨b, o + j * 4, none⟩)) ∧ (D 6 = true → x48 = .agg (cellsAt c (o + j * 4) 4).toArray) ∧ (D 7 = true → x49 = v) ∧ (D 8 = true → True) ∧ (D 9 = true → True) ∧ (D 10 = true → True) ∧ (D 11 = true → x53 = .pointer (some ⟨b3, 3, none⟩)) ∧ (D 12 = true → True) ∧ ∃ M cs7 b8, (D 8 = true → x50 = .agg cs7.toArray ∧ TrT M cs7 (srenT vs ks[j])) ∧ (D 9 = true → x51 = .slice (some ⟨b8, 0, none⟩) 1 1) ∧ (D 9 = true → D 8 = true) ∧ (D 10 = true → D 9 = true) ∧ (D 12 = true → D 10 = true) ∧ (D 12 = true → D 1 = true) ∧ Inv w [] (cpItems (.blk b1 (.cells #[.int .i64 k, .int .i64 n, .string s, .slice (some ⟨b, o, none⟩) ks.length cap] t_iTerm)) (.blk b2 (.cells #[.int .i64 0, .int .i64 0, .string ⟨#[]⟩, .slice none 0 0] t_iTerm)) (.blk b3 (.cells #[.int .i64 k, .int .i64 cur, .string s, kvc] t_iTerm)) (.blk b3 (.cells #[.int .i64 k, .int .i64 cur, .string s, x52] t_iTerm)) (rowG kvc t_iTerm 4 css) (rowG x52 t_iTerm 4 (css ++ [cs7])) (blks Ls.flatten) M (.blk b8 (.cells cs7.toArray t_iTerm)) (D 8) (D 9) (D 10) (D 12)) S w_, ⟨fun h => Bool.noConfusion h, fun h => Bool.noConfusion h, fun h => Bool.noConfusion h, fun h => Bool.noConfusion h, fun h => Bool.noConfusion h, fun h => Bool.noConfusion h, fun h => Bool.noConfusion h, fun h => Bool.noConfusion h, fun h => Bool.noConfusion h, fun h => Bool.noConfusion h, fun h => Bool.noConfusion h, fun h => Bool.noConfusion h, fun h => Bool.noConfusion h, ⟨[], [], 0, fun h => Bool.noConfusion h, fun h => Bool.noConfusion h, fun h => Bool.noConfusion h, fun h => Bool.noConfusion h, fun h => Bool.noConfusion h, fun h => Bool.noConfusion h, by simpa [cpItems, blks] using hI.draw⟩⟩, ⟨?_, ?_, ?_, ?_, ?_, ?_, ?_, ?_, ?_, ?_, ?_, ?_, ?_, trivial⟩, ?_⟩
    · intro D hD_  x53 x52 x51 x50 x49 x48 x47 x46 x45 x44 x43 x42 w_
      rintro ⟨h0_, h1_, h2_, h3_, h4_, h5_, h6_, h7_, h8_, h9_, h10_, h11_, h12_, ⟨M, cs7, b8, e7, e8, k8, k9, k11, k1, hI⟩⟩
      refine r_field fo_iTerm_3 ?_
      exact ⟨fun _ => rfl, h1_, h2_, h3_, h4_, h5_, h6_, h7_, h8_, h9_, h10_, h11_, h12_, ⟨M, cs7, b8, e7, e8, k8, k9, k11, k1, hI⟩⟩
    · intro D hD_ d0_0 x53 x52 x51 x50 x49 x48 x47 x46 x45 x44 x43 x42 w_
      rintro ⟨h0_, h1_, h2_, h3_, h4_, h5_, h6_, h7_, h8_, h9_, h10_, h11_, h12_, ⟨M, cs7, b8, e7, e8, k8, k9, k11, k1, hI⟩⟩
      obtain rfl := h0_ d0_0
      have f11 : D 12 = false := Bool.eq_false_iff.2 fun h => by rw [k1 h] at hD_; cases hD_
      refine r_loadL (b := b3) hI 2 (c := (#[.int .i64 k, .int .i64 cur, .string s, kvc])) sc_SiTerm (by rw [f11]; rfl) rfl ?_
      have k1 := fun (_ : setD D 1 12 = true) => (rfl : setD D 1 1 = true)
      exact ⟨h0_, fun _ => rfl, h2_, h3_, h4_, h5_, h6_, h7_, h8_, h9_, h10_, h11_, h12_, ⟨M, cs7, b8, e7, e8, k8, k9, k11, k1, hI⟩⟩
    · intro D hD_  x53 x52 x51 x50 x49 x48 x47 x46 x45 x44 x43 x42 w_
      rintro ⟨h0_, h1_, h2_, h3_, h4_, h5_, h6_, h7_, h8_, h9_, h10_, h11_, h12_, ⟨M, cs7, b8, e7, e8, k8, k9, k11, k1, hI⟩⟩
      refine r_field fo_iTerm_3 ?_
      exact ⟨h0_, h1_, fun _ => rfl, h3_, h4_, h5_, h6_, h7_, h8_, h9_, h10_, h11_, h12_, ⟨M, cs7, b8, e7, e8, k8, k9, k11, k1, hI⟩⟩
    · intro D hD_ d2_0 x53 x52 x51 x50 x49 x48 x47 x46 x45 x44 x43 x42 w_
      rintro ⟨h0_, h1_, h2_, h3_, h4_, h5_, h6_, h7_, h8_, h9_, h10_, h11_, h12_, ⟨M, cs7, b8, e7, e8, k8, k9, k11, k1, hI⟩⟩
      obtain rfl := h2_ d2_0
      refine r_loadL hI 0 sc_SiTerm rfl rfl ?_
      exact ⟨h0_, h1_, h2_, fun _ => rfl, h4_, h5_, h6_, h7_, h8_, h9_, h10_, h11_, h12_, ⟨M, cs7, b8, e7, e8, k8, k9, k11, k1, hI⟩⟩
    · intro D hD_  x53 x52 x51 x50 x49 x48 x47 x46 x45 x44 x43 x42 w_
      rintro ⟨h0_, h1_, h2_, h3_, h4_, h5_, h6_, h7_, h8_, h9_, h10_, h11_, h12_, ⟨M, cs7, b8, e7, e8, k8, k9, k11, k1, hI⟩⟩
      exact ⟨h0_, h1_, h2_, h3_, fun _ => rfl, h5_, h6_, h7_, h8_, h9_, h10_, h11_, h12_, ⟨M, cs7, b8, e7, e8, k8, k9, k11, k1, hI⟩⟩
    · intro D hD_ d3_0 d4_1 x53 x52 x51 x50 x49 x48 x47 x46 x45 x44 x43 x42 w_
      rintro ⟨h0_, h1_, h2_, h3_, h4_, h5_, h6_, h7_, h8_, h9_, h10_, h11_, h12_, ⟨M, cs7, b8, e7, e8, k8, k9, k11, k1, hI⟩⟩
      obtain rfl := h3_ d3_0
      obtain rfl := h4_ d4_1
      refine r_indexAddr sl_SiTerm hj' ?_
      exact ⟨h0_, h1_, h2_, h3_, h4_, fun _ => rfl, h6_, h7_, h8_, h9_, h10_, h11_, h12_, ⟨M, cs7, b8, e7, e8, k8, k9, k11, k1, hI⟩⟩
    · intro D hD_ d5_0 x53 x52 x51 x50 x49 x48 x47 x46 x45 x44 x43 x42 w_
      rintro ⟨h0_, h1_, h2_, h3_, h4_, h5_, h6_, h7_, h8_, h9_, h10_, h11_, h12_, ⟨M, cs7, b8, e7, e8, k8, k9, k11, k1, hI⟩⟩
      obtain rfl := h5_ d5_0
      refine r_loadA ag_iTerm hR.length (fun j v hj => by rw [hI.cellS hS]; exact cellsAt_get rfl j v hj) ?_
      exact ⟨h0_, h1_, h2_, h3_, h4_, h5_, fun _ => rfl, h7_, h8_, h9_, h10_, h11_, h12_, ⟨M, cs7, b8, e7, e8, k8, k9, k11, k1, hI⟩⟩
    · intro D hD_  x53 x52 x51 x50 x49 x48 x47 x46 x45 x44 x43 x42 w_
      rintro ⟨h0_, h1_, h2_, h3_, h4_, h5_, h6_, h7_, h8_, h9_, h10_, h11_, h12_, ⟨M, cs7, b8, e7, e8, k8, k9, k11, k1, hI⟩⟩
      exact ⟨h0_, h1_, h2_, h3_, h4_, h5_, h6_, fun _ => rfl, h8_, h9_, h10_, h11_, h12_, ⟨M, cs7, b8, e7, e8, k8, k9, k11, k1, hI⟩⟩
    · intro D hD_ d6_0 d7_1 x53 x52 x51 x50 x49 x48 x47 x46 x45 x44 x43 x42 w_
      rintro ⟨h0_, h1_, h2_, h3_, h4_, h5_, h6_, h7_, h8_, h9_, h10_, h11_, h12_, ⟨M, cs7, b8, e7, e8, k8, k9, k11, k1, hI⟩⟩
      obtain rfl := h6_ d6_0
      obtain rfl := h7_ d7_1
      have f8 : D 9 = false := Bool.eq_false_iff.2 fun h => by rw [k8 h] at hD_; cases hD_
      have f9 : D 10 = false := Bool.eq_false_iff.2 fun h => by rw [k9 h] at f8; cases f8
      have f11 : D 12 = false := Bool.eq_false_iff.2 fun h => by rw [k11 h] at f9; cases f9
      rw [hD_, f8, f9, f11] at hI
      refine Run.call0 fn_s_l1Rename nm_s_l1Rename hI (ih _ (List.getElem_mem hj') S _ _ hR hv (by omega)) fun v' I' S w_ => ?_
      rintro ⟨rfl, cs7, M, rfl, rfl, hT⟩ _ hI
      have e7 : setD D 8 8 = true → Value.agg cs7.toArray = Value.agg cs7.toArray ∧ TrT M cs7 (srenT vs ks[j]) := fun _ => ⟨rfl, hT⟩
      have k8 := fun (_ : setD D 8 9 = true) => (rfl : setD D 8 8 = true)
      have hI : Inv w [] (cpItems (.blk b1 (.cells #[.int .i64 k, .int .i64 n, .string s, .slice (some ⟨b, o, none⟩) ks.length cap] t_iTerm)) (.blk b2 (.cells #[.int .i64 0, .int .i64 0, .string ⟨#[]⟩, .slice none 0 0] t_iTerm)) (.blk b3 (.cells #[.int .i64 k, .int .i64 cur, .string s, kvc] t_iTerm)) (.blk b3 (.cells #[.int .i64 k, .int .i64 cur, .string s, x52] t_iTerm)) (rowG kvc t_iTerm 4 css) (rowG x52 t_iTerm 4 (css ++ [cs7])) (blks Ls.flatten) M (.blk b8 (.cells cs7.toArray t_iTerm)) true (D 9) (D 10) (D 12)) S w_ := by
        rw [f8, f9, f11]
        simpa [cpItems] using hI
      exact ⟨h0_, h1_, h2_, h3_, h4_, h5_, h6_, h7_, fun _ => by first | assumption | trivial, h9_, h10_, h11_, h12_, ⟨M, cs7, b8, e7, e8, k8, k9, k11, k1, hI⟩⟩
    · intro D hD_ d8_0 x53 x52 x51 x50 x49 x48 x47 x46 x45 x44 x43 x42 w_
      rintro ⟨h0_, h1_, h2_, h3_, h4_, h5_, h6_, h7_, h8_, h9_, h10_, h11_, h12_, ⟨M, cs7, b8, e7, e8, k8, k9, k11, k1, hI⟩⟩
      have g8_ := h8_ d8_0
      have f9 : D 10 = false := Bool.eq_false_iff.2 fun h => by rw [k9 h] at hD_; cases hD_
      have f11 : D 12 = false := Bool.eq_false_iff.2 fun h => by rw [k11 h] at f9; cases f9
      obtain ⟨q7, hT⟩ := e7 d8_0
      subst q7
      rw [d8_0, hD_, f9, f11] at hI
      refine r_slice1 hI mk_SiTerm (by simp [Value.cells, hT.length]) (by omega) (by omega) fun b8 w_ hI => ?_
      have e7 : setD D 9 8 = true → Value.agg cs7.toArray = Value.agg cs7.toArray ∧ TrT M cs7 (srenT vs ks[j]) := fun _ => ⟨rfl, hT⟩
      have e8 := fun (_ : setD D 9 9 = true) => (rfl : Value.slice (some ⟨b8, 0, none⟩) 1 1 = _)
      have k8 := fun (_ : setD D 9 9 = true) => d8_0
      have k9 := fun (_ : setD D 9 10 = true) => (rfl : setD D 9 9 = true)
      have hI : Inv w [] (cpItems (.blk b1 (.cells #[.int .i64 k, .int .i64 n, .string s, .slice (some ⟨b, o, none⟩) ks.length cap] t_iTerm)) (.blk b2 (.cells #[.int .i64 0, .int .i64 0, .string ⟨#[]⟩, .slice none 0 0] t_iTerm)) (.blk b3 (.cells #[.int .i64 k, .int .i64 cur, .string s, kvc] t_iTerm)) (.blk b3 (.cells #[.int .i64 k, .int .i64 cur, .string s, x52] t_iTerm)) (rowG kvc t_iTerm 4 css) (rowG x52 t_iTerm 4 (css ++ [cs7])) (blks Ls.flatten) M (.blk b8 (.cells cs7.toArray t_iTerm)) (D 8) true (D 10) (D 12)) S w_ := by
        rw [d8_0, f9, f11]
        simpa [cpItems, Value.cells] using hI
      exact ⟨h0_, h1_, h2_, h3_, h4_, h5_, h6_, h7_, h8_, fun _ => by first | assumption | trivial, h10_, h11_, h12_, ⟨M, cs7, b8, e7, e8, k8, k9, k11, k1, hI⟩⟩
    · intro D hD_ d1_0 d9_1 d8_2 x53 x52 x51 x50 x49 x48 x47 x46 x45 x44 x43 x42 w_
      rintro ⟨h0_, h1_, h2_, h3_, h4_, h5_, h6_, h7_, h8_, h9_, h10_, h11_, h12_, ⟨M, cs7, b8, e7, e8, k8, k9, k11, k1, hI⟩⟩
      obtain rfl := h1_ d1_0
      have g9_ := h9_ d9_1
      have f11 : D 12 = false := Bool.eq_false_iff.2 fun h => by rw [k11 h] at hD_; cases hD_
      have q8 := e8 d9_1
      subst q8
      obtain ⟨_, hT⟩ := e7 d8_2
      rw [d8_2, d9_1, hD_, f11] at hI
      have hblk : ((cpItems (.blk b1 (.cells #[.int .i64 k, .int .i64 n, .string s, .slice (some ⟨b, o, none⟩) ks.length cap] t_iTerm)) (.blk b2 (.cells #[.int .i64 0, .int .i64 0, .string ⟨#[]⟩, .slice none 0 0] t_iTerm)) (.blk b3 (.cells #[.int .i64 k, .int .i64 cur, .string s, x43] t_iTerm)) (.blk b3 (.cells #[.int .i64 k, .int .i64 cur, .string s, x52] t_iTerm)) (rowG x43 t_iTerm 4 css) (rowG x52 t_iTerm 4 (css ++ [cs7])) (blks Ls.flatten) M (.blk b8 (.cells cs7.toArray t_iTerm)) true true false false))[4 + (blks Ls.flatten).length + (blks M).length]? = some (.blk b8 (.cells cs7.toArray t_iTerm)) := by
        have e4 : 4 + (blks Ls.flatten).length + (blks M).length = ((blks Ls.flatten).length + (blks M).length) + 1 + 1 + 1 + 1 := by omega
        rw [e4]
        simp only [cpItems, List.getElem?_cons_succ]
        rw [List.getElem?_append_right (by omega), Nat.add_sub_cancel_left, List.getElem?_append_right (Nat.le_refl _), Nat.sub_self]; rfl
      refine r_append hI 3 cs7 mk_SiTerm (by omega) rfl (by rw [hT.length]) (m := 1) (o := 0) ?_ hT.one (by omega) (by omega) fun v' w_ hI => ?_
      · intro i u hi
        rw [hI.cellL hblk, Nat.zero_add]
        simpa using hi
      rw [rowG_snoc] at hI
      have k9 := fun (_ : setD D 10 10 = true) => d9_1
      have k11 := fun (_ : setD D 10 12 = true) => (rfl : setD D 10 10 = true)
      have hI : Inv w [] (cpItems (.blk b1 (.cells #[.int .i64 k, .int .i64 n, .string s, .slice (some ⟨b, o, none⟩) ks.length cap] t_iTerm)) (.blk b2 (.cells #[.int .i64 0, .int .i64 0, .string ⟨#[]⟩, .slice none 0 0] t_iTerm)) (.blk b3 (.cells #[.int .i64 k, .int .i64 cur, .string s, x43] t_iTerm)) (.blk b3 (.cells #[.int .i64 k, .int .i64 cur, .string s, v'] t_iTerm)) (rowG x43 t_iTerm 4 css) (rowG v' t_iTerm 4 (css ++ [cs7])) (blks Ls.flatten) M (.blk b8 (.cells cs7.toArray t_iTerm)) (D 8) (D 9) true (D 12)) S w_ := by
        rw [d8_2, d9_1, f11]
        exact hI
      exact ⟨h0_, h1_, h2_, h3_, h4_, h5_, h6_, h7_, h8_, h9_, fun _ => by first | assumption | trivial, h11_, h12_, ⟨M, cs7, b8, e7, e8, k8, k9, k11, k1, hI⟩⟩
    · intro D hD_ d0_0 d1_1 d2_2 d3_3 d4_4 d5_5 d6_6 d7_7 d8_8 d9_9 d10_10 x53 x52 x51 x50 x49 x48 x47 x46 x45 x44 x43 x42 w_
      rintro ⟨h0_, h1_, h2_, h3_, h4_, h5_, h6_, h7_, h8_, h9_, h10_, h11_, h12_, ⟨M, cs7, b8, e7, e8, k8, k9, k11, k1, hI⟩⟩
      refine r_field fo_iTerm_3 ?_
      exact ⟨h0_, h1_, h2_, h3_, h4_, h5_, h6_, h7_, h8_, h9_, h10_, fun _ => rfl, h12_, ⟨M, cs7, b8, e7, e8, k8, k9, k11, k1, hI⟩⟩
    · intro D hD_ d11_0 d10_1 d10_2 d0_3 d1_4 d2_5 d3_6 d4_7 d5_8 d6_9 d7_10 d8_11 d9_12 d10_13 x53 x52 x51 x50 x49 x48 x47 x46 x45 x44 x43 x42 w_
      rintro ⟨h0_, h1_, h2_, h3_, h4_, h5_, h6_, h7_, h8_, h9_, h10_, h11_, h12_, ⟨M, cs7, b8, e7, e8, k8, k9, k11, k1, hI⟩⟩
      obtain rfl := h11_ d11_0
      have g10_ := h10_ d10_1
      rw [d8_11, d9_12, d10_1, hD_] at hI
      obtain ⟨va, vn, vc, hv9⟩ := Inv.rowSlice hI 3 rfl
      refine r_store hI 2 (n := 1) (by rw [hv9]; rfl) (by decide +kernel) rfl (by simp) (by rw [hv9]; simp [Value.cells, Value.oneCell']) fun w_ hI => ?_
      have hcl9 : Value.cells x52 = #[x52] := by rw [hv9]; rfl
      rw [hcl9] at hI
      have k1 := fun (_ : setD D 12 12 = true) => d1_4
      have k11 := fun (_ : setD D 12 12 = true) => d10_1
      have hI : Inv w [] (cpItems (.blk b1 (.cells #[.int .i64 k, .int .i64 n, .string s, .slice (some ⟨b, o, none⟩) ks.length cap] t_iTerm)) (.blk b2 (.cells #[.int .i64 0, .int .i64 0, .string ⟨#[]⟩, .slice none 0 0] t_iTerm)) (.blk b3 (.cells #[.int .i64 k, .int .i64 cur, .string s, kvc] t_iTerm)) (.blk b3 (.cells #[.int .i64 k, .int .i64 cur, .string s, x52] t_iTerm)) (rowG kvc t_iTerm 4 css) (rowG x52 t_iTerm 4 (css ++ [cs7])) (blks Ls.flatten) M (.blk b8 (.cells cs7.toArray t_iTerm)) (D 8) (D 9) (D 10) true) S w_ := by
        rw [d8_11, d9_12, d10_1]
        exact hI
      exact ⟨h0_, h1_, h2_, h3_, h4_, h5_, h6_, h7_, h8_, h9_, h10_, h11_, fun _ => trivial, ⟨M, cs7, b8, e7, e8, k8, k9, k11, k1, hI⟩⟩
    intro D d12_ d11_ d10_ d9_ d8_ d7_ d6_ d5_ d4_ d3_ d2_ d1_ d0_ x53 x52 x51 x50 x49 x48 x47 x46 x45 x44 x43 x42 w_
    rintro ⟨h0_, h1_, h2_, h3_, h4_, h5_, h6_, h7_, h8_, h9_, h10_, h11_, h12_, ⟨M, cs7, b8, e7, e8, k8, k9, k11, k1, hI⟩⟩
    obtain rfl := h11_ d11_
    have g10_ := h10_ d10_
    have g9_ := h9_ d9_
    have g8_ := h8_ d8_
    obtain rfl := h7_ d7_
    obtain rfl := h6_ d6_
    obtain rfl := h5_ d5_
    obtain rfl := h4_ d4_
    obtain rfl := h3_ d3_
    obtain rfl := h2_ d2_
    obtain rfl := h1_ d1_
    obtain rfl := h0_ d0_
    clear h0_ h1_ h2_ h3_ h4_ h5_ h6_ h7_ h8_ h9_ h10_ h11_ h12_
    obtain ⟨_, hT⟩ := e7 d8_
    rw [d8_, d9_, d10_, d12_] at hI
    refine r_add (by omega) ?_
    refine ⟨⟨j + 1, x52, Ls ++ [M], css ++ [cs7], hj', rfl, ?_, ?_⟩, by simp [intOf]; omega⟩
    · rw [srenL_take vs ks j hj']
      exact hg.snoc hT hT.length
    · simp only [List.flatten_append, List.flatten_cons, List.flatten_nil, List.append_nil, blks_append]
      refine hI.sub ?_
      simp only [cpItems]
      rw [← List.append_assoc]
      exact (((List.sublist_append_left _ _).cons_cons _).cons_cons _).cons_cons _ |>.cons_cons _
  · have : j = ks.length := by omega
    subst this
    rw [List.take_length] at hg
    obtain ⟨va, vn, vc, hvk⟩ := hI.rowSlice 3 rfl
    have hv1 : kvc.oneCell' = true := by rw [hvk]; rfl
    refine r_loadW hI 2 ag_iTerm rfl rfl ?_
    refine r_storeW hI 1 rfl ag_iTerm rfl rfl ?_ fun w' hI => ?_
    · intro u hu
      have hu' : u ∈ ([.int .i64 k, .int .i64 cur, .string s, kvc] : List Value) := hu
      simp at hu'
      rcases hu' with rfl | rfl | rfl | rfl <;> first | rfl | exact hv1
    refine loadV_W hI 1 ag_iTerm rfl rfl ?_
    have hI : Inv w [] ([] ++ (rowG kvc t_iTerm 4 css :: blks Ls.flatten)) S w' := hI.sub (List.sublist_append_right [_, _, _] _)
    obtain ⟨L, hT, hI⟩ := Inv.rowTree hI hg
    exact ⟨_, _, _, rfl, hI, Ext.refl _ _ _, rfl, _, L, rfl, rfl, TrT.iff.2 ⟨kvc, by rw [srenT, ← hN]; rfl, by rw [srenT]; exact h1, by rw [srenT, ← hN]; exact hNi, by rw [srenT]; exact hs, by rw [srenT]; exact hT⟩⟩
end

end Go.Proofs.Ytnoieadimkgjcaa
