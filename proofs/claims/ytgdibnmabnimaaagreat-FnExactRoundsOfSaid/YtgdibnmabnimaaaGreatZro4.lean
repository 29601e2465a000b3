/- Matching a general term to a special one: the plain form, and spec.l3Match. -/
import Derived.Test.YtgdibnmabnimaaaGreatZro3
import Derived.Test.YtgdibnmabnimaaaGreatZro1
import Derived.Test.YtgdibnmabnimaaaGreatZro0
namespace Go.Proofs.YtgdibnmabnimaaaGreat
open Go Go.RowKit

abbrev Known := List (Option T)
mutual
def matchT : T → T → Known → Bool × Known
  | .mk k n s ks, u, st => if k = 1 then (match st[n.toNat]? with
      | some (some t) => (eqT t u, st)
      | _ => (true, st.set n.toNat (some u)))
    else if hdEq (.mk k n s ks) u = true then matchL ks u.kids st else (false, st)
def matchL : List T → List T → Known → Bool × Known
  | [], _, st => (true, st)
  | _ :: _, [], st => (true, st)
  | t :: ts, u :: us, st => if (matchT t u st).1 = true then matchL ts us (matchT t u st).2 else (false, (matchT t u st).2)
end
theorem matchL_drop (ts us : List T) (st : Known) (j : Nat) (h : j < ts.length) (h' : j < us.length) :
    matchL (ts.drop j) (us.drop j) st = if (matchT ts[j] us[j] st).1 = true then matchL (ts.drop (j + 1)) (us.drop (j + 1)) (matchT ts[j] us[j] st).2 else (false, (matchT ts[j] us[j] st).2) := by
  rw [List.drop_eq_getElem_cons h, List.drop_eq_getElem_cons h', matchL]
/- variables within the table; kinds that are kinds -/
mutual
def okV : T → Prop
  | .mk k n _ ks => (k = 1 → 0 ≤ n ∧ n ≤ 25) ∧ okVL ks
def okVL : List T → Prop
  | [] => True
  | t :: ts => okV t ∧ okVL ts
end
theorem okVL_mem : ∀ {ts : List T}, okVL ts → ∀ t ∈ ts, okV t
  | _ :: _, h, t, ht => by
    rcases List.mem_cons.1 ht with rfl | ht
    · exact h.1
    · exact okVL_mem h.2 t ht
mutual
def okK : T → Prop
  | .mk k _ _ ks => k ≠ 0 ∧ okKL ks
def okKL : List T → Prop
  | [] => True
  | t :: ts => okK t ∧ okKL ts
end
theorem okKL_mem : ∀ {ts : List T}, okKL ts → ∀ t ∈ ts, okK t
  | _ :: _, h, t, ht => by
    rcases List.mem_cons.1 ht with rfl | ht
    · exact h.1
    · exact okKL_mem h.2 t ht
theorem ownB_v {t : T} (h : ownB t = true) : (t.kind = 1 → 0 ≤ t.n ∧ t.n ≤ 25) ∧ t.kind ≠ 0 := by
  unfold ownB at h
  refine ⟨fun hk => ?_, fun hk => ?_⟩
  · rw [if_pos hk] at h
    simp only [Bool.and_eq_true, decide_eq_true_eq] at h
    exact ⟨h.1, h.2.1⟩
  · rw [if_neg (by omega), if_neg (by omega), if_neg (by omega)] at h
    cases h
mutual
theorem shape_ok : ∀ (t : T) (d : Int), shapeT t d = true → okV t ∧ okK t
  | .mk k n s ks, d, h => by
    rw [shapeT] at h
    split at h
    · cases h
    · simp only [Bool.and_eq_true] at h
      obtain ⟨h1, h2⟩ := h
      obtain ⟨h3, h4⟩ := shapeL_ok ks (d - 1) h2
      rw [okV, okK]
      obtain ⟨h5, h6⟩ := ownB_v h1
      exact ⟨⟨h5, h3⟩, ⟨h6, h4⟩⟩
theorem shapeL_ok : ∀ (ts : List T) (d : Int), shapeL ts d = true → okVL ts ∧ okKL ts
  | [], d, h => by simp [okVL, okKL]
  | t :: ts, d, h => by
    rw [shapeL, Bool.and_eq_true] at h
    obtain ⟨h1, h2⟩ := shape_ok t d h.1
    obtain ⟨h3, h4⟩ := shapeL_ok ts d h.2
    rw [okVL, okKL]
    exact ⟨⟨h1, h3⟩, ⟨h2, h4⟩⟩
end
theorem valid_ok {t : T} (h : validB t = true) : okV t ∧ okK t := by
  rw [validB, Bool.and_eq_true] at h
  exact shape_ok t 30 h.1
def stOk (st : Known) : Prop := st.length = 26 ∧ ∀ t, some t ∈ st → okK t
theorem stOk_set {st : Known} {n : Nat} {u : T} (h : stOk st) (hu : okK u) : stOk (st.set n (some u)) := by
  refine ⟨by rw [List.length_set]; exact h.1, fun t ht => ?_⟩
  rcases List.mem_or_eq_of_mem_set ht with ht | ht
  · exact h.2 t ht
  · simp only [Option.some.injEq] at ht
    rw [ht]; exact hu
mutual
theorem match_ok : ∀ (t u : T) (st : Known), stOk st → okK u → stOk (matchT t u st).2
  | .mk k n s ks, u, st, h, hu => by
    rw [matchT]
    split
    · split
      · exact h
      · exact stOk_set h hu
    · split
      · obtain ⟨k', n', s', ks'⟩ := u
        rw [okK] at hu
        exact matchL_ok ks ks' st h hu.2
      · exact h
theorem matchL_ok : ∀ (ts us : List T) (st : Known), stOk st → okKL us → stOk (matchL ts us st).2
  | [], _, st, h, _ => by rw [matchL]; exact h
  | _ :: _, [], st, h, _ => by rw [matchL]; exact h
  | t :: ts, u :: us, st, h, hu => by
    rw [matchL]
    rw [okKL] at hu
    split
    · exact matchL_ok ts us _ (match_ok t u st h hu.1) hu.2
    · exact match_ok t u st h hu.1
end
def noCells : List Value := [.int .i64 0, .int .i64 0, .string ⟨#[]⟩, .slice none 0 0]
/- the table of spec.l3Match -/
def KnownC (S : Store) (c : Array Value) (st : Known) : Prop := 104 ≤ c.size ∧ ∀ i (h : i < st.length), (st[i] = none → cellsAt c (i * 4) 4 = noCells) ∧ (∀ t, st[i] = some t → RdT S (cellsAt c (i * 4) 4) t)
theorem KnownC.set {S : Store} {c : Array Value} {st : Known} (h : KnownC S c st) {n : Nat} (hn : n < 26) {cs : List Value} {u : T} (hu : RdT S cs u) : KnownC S (putCells c (n * 4) cs) (st.set n (some u)) := by
  have hlc := hu.length
  have h1 := h.1
  have hs : 104 ≤ (putCells c (n * 4) cs).size := by rw [putCells_size _ _ _ (by omega)]; exact h1
  refine ⟨hs, fun i hi => ?_⟩
  rw [List.length_set] at hi
  by_cases e : n = i
  · subst e
    rw [List.getElem_set_self]
    refine ⟨fun h => (by cases h), fun t ht => ?_⟩
    simp only [Option.some.injEq] at ht
    subst ht
    have := cellsAt_put_self (c := c) (o := n * 4) (vs := cs) (by omega)
    rw [hlc] at this
    rw [this]
    exact hu
  · rw [List.getElem_set_ne e, cellsAt_put_ne (by omega) (by omega)]
    exact h.2 i hi
section
attribute [local irreducible] Run CondV GuardV LoadV
abbrev kvn (kb kp : Nat) : Value := .slice (some ⟨kb, 0, none⟩) 26 kp
abbrev kv0 (kb : Nat) : Value := kvn kb 26
theorem l3Match_calls (kp : Nat) : ∀ (t u : T) (S : Store) (cs ds : List Value) (kb : Nat) (kc : Array Value) (st : Known), RdT S cs t → RdT S ds u → okV t → okK u → stOk st → KnownC S kc st →
    Tri Tryz.prog n_s_l3Match [.agg cs.toArray, .agg ds.toArray, kvn kb kp] [.blk kb (.cells kc t_iTerm)] S fun r I' S' => S' = S ∧ r = .bool (matchT t u st).1 ∧ ∃ kc', I' = [.blk kb (.cells kc' t_iTerm)] ∧ KnownC S kc' (matchT t u st).2 := by
  refine T.ind fun k n s ks ih u S cs ds kb kc st h h' hv hu hst hkc => ?_
  intro w hI
  have hds := h'
  obtain ⟨kv, rfl, _, _, _, hks⟩ := RdT.iff.1 h
  obtain ⟨kv', rfl, _, _, _, hks'⟩ := RdT.iff.1 h'
  obtain ⟨k', n', s', ks'⟩ := u
  simp only [T.name, T.kids, T.kind, T.n] at hks hks' ⊢
  have hlen := hks.le
  simp only [maxLen] at hlen
  rw [okV] at hv
  obtain ⟨hv1, hv2⟩ := hv
  have huk := hu
  rw [okK] at hu
  obtain ⟨X, hX⟩ : ∃ X, X = feet [Item.blk kb (.cells kc t_iTerm)] := ⟨_, rfl⟩
  rw [← hX] at hI ⊢
  refine calls_s_l3Match ?_
  unfold sh_s_l3Match
  refine r_box hI fun b1 w' hI => ?_
  refine r_box hI fun b2 w' hI => ?_
  have hI : Inv w X [.blk b1 (.cells #[.int .i64 k, .int .i64 n, .string s, kv] t_iTerm), .blk b2 (.cells #[.int .i64 k', .int .i64 n', .string s', kv'] t_iTerm), .blk kb (.cells kc t_iTerm)] S w' := hI.perm (by
    refine (List.perm_append_comm (l₁ := [_, _]) (l₂ := [_])).trans ?_
    exact List.Perm.refl _)
  refine r_fieldL hI 0 rfl fo_iTerm_0 sc_int rfl ?_
  refine r_eql ?_
  refine condP (fun hk1 => ?_) (fun hk1 => ?_)
  · obtain ⟨hn0, hn25⟩ := hv1 hk1
    obtain ⟨j, rfl⟩ : ∃ j : Nat, n = j := ⟨n.toNat, by omega⟩
    have hj : j < 26 := by omega
    have hjs : j < st.length := by rw [hst.1]; exact hj
    refine r_fieldL hI 0 rfl fo_iTerm_1 sc_int rfl ?_
    refine r_indexAddr sl_SiTerm hj ?_
    refine r_field fo_iTerm_0 ?_
    rw [Nat.zero_add, Nat.add_zero]
    obtain ⟨hno, hso⟩ := hkc.2 j hjs
    cases hst2 : st[j] with
    | none =>
      have hcell := hno hst2
      refine r_loadL hI 2 sc_int rfl (by have := cellsAt_get hcell 0 _ rfl; exact this) ?_
      refine r_neq ?_
      refine condV (fun hb => by simp at hb) (fun _ => ?_)
      refine r_fieldL hI 0 rfl fo_iTerm_1 sc_int rfl ?_
      refine r_loadW hI 1 ag_iTerm rfl rfl ?_
      refine r_indexAddr sl_SiTerm hj ?_
      rw [Nat.zero_add]
      refine r_storeB hI 2 rfl ag_iTerm rfl (by have := hkc.1; exact Nat.ble_eq_true_of_le (by omega)) hds.one fun w' hI => ?_
      have hm : matchT (.mk k j s ks) (.mk k' n' s' ks') st = (true, st.set j (some (.mk k' n' s' ks'))) := by
        rw [matchT, if_pos hk1, Int.toNat_natCast, List.getElem?_eq_getElem hjs, hst2]
      rw [hm]
      exact ⟨_, _, _, rfl, hI.pick [false, false, true], Ext.refl _ _ _, rfl, rfl, _, rfl, hkc.set hj hds⟩
    | some t0 =>
      have hR := hso t0 hst2
      have hk0 : t0.kind ≠ 0 := by
        have := hst.2 t0 (by rw [← hst2]; exact List.getElem_mem hjs)
        obtain ⟨a, b, c, d⟩ := t0
        rw [okK] at this
        exact this.1
      obtain ⟨kv0', hcell, _, _, _, _⟩ := RdT.iff.1 hR
      refine r_loadL hI 2 sc_int rfl (by have := cellsAt_get hcell 0 _ rfl; exact this) ?_
      refine r_neq ?_
      rw [decide_eq_false hk0]
      refine condV (fun _ => ?_) (fun hb => by cases hb)
      refine ⟨fun D x6 x24 x23 x22 x21 x20 x19 x18 w_ => (D 0 = true → x18 = kvn kb kp) ∧ (D 1 = true → x19 = .pointer (some ⟨b1, 1, none⟩)) ∧ (D 2 = true → x20 = .int .i64 j) ∧ (D 3 = true → x21 = .pointer (some ⟨kb, j * 4, none⟩)) ∧ (D 4 = true → x22 = .agg (cellsAt kc (j * 4) 4).toArray) ∧ (D 5 = true → x23 = .agg #[.int .i64 k', .int .i64 n', .string s', kv']) ∧ (D 6 = true → x24 = .bool (eqT t0 (.mk k' n' s' ks'))) ∧ (D 7 = true → x6 = .bool (eqT t0 (.mk k' n' s' ks'))) ∧ Inv w X [.blk b1 (.cells #[.int .i64 k, .int .i64 (j : Int), .string s, kv] t_iTerm), .blk b2 (.cells #[.int .i64 k', .int .i64 n', .string s', kv'] t_iTerm), .blk kb (.cells kc t_iTerm)] S w_, ⟨fun h => Bool.noConfusion h, fun h => Bool.noConfusion h, fun h => Bool.noConfusion h, fun h => Bool.noConfusion h, fun h => Bool.noConfusion h, fun h => Bool.noConfusion h, fun h => Bool.noConfusion h, fun h => Bool.noConfusion h, hI.draw⟩, ⟨?_, ?_, ?_, ?_, ?_, ?_, ?_, ?_, trivial⟩, ?_⟩
      · intro D hD_  x6 x24 x23 x22 x21 x20 x19 x18 w_
        rintro ⟨h0_, h1_, h2_, h3_, h4_, h5_, h6_, h7_, hI⟩
        exact ⟨fun _ => rfl, h1_, h2_, h3_, h4_, h5_, h6_, h7_, hI⟩
      · intro D hD_  x6 x24 x23 x22 x21 x20 x19 x18 w_
        rintro ⟨h0_, h1_, h2_, h3_, h4_, h5_, h6_, h7_, hI⟩
        refine r_field fo_iTerm_1 ?_
        exact ⟨h0_, fun _ => rfl, h2_, h3_, h4_, h5_, h6_, h7_, hI⟩
      · intro D hD_ d1_0 x6 x24 x23 x22 x21 x20 x19 x18 w_
        rintro ⟨h0_, h1_, h2_, h3_, h4_, h5_, h6_, h7_, hI⟩
        obtain rfl := h1_ d1_0
        refine r_loadL hI 0 sc_int rfl rfl ?_
        exact ⟨h0_, h1_, fun _ => rfl, h3_, h4_, h5_, h6_, h7_, hI⟩
      · intro D hD_ d0_0 d2_1 x6 x24 x23 x22 x21 x20 x19 x18 w_
        rintro ⟨h0_, h1_, h2_, h3_, h4_, h5_, h6_, h7_, hI⟩
        obtain rfl := h0_ d0_0
        obtain rfl := h2_ d2_1
        refine r_indexAddr sl_SiTerm hj ?_; rw [Nat.zero_add]
        exact ⟨h0_, h1_, h2_, fun _ => rfl, h4_, h5_, h6_, h7_, hI⟩
      · intro D hD_ d3_0 x6 x24 x23 x22 x21 x20 x19 x18 w_
        rintro ⟨h0_, h1_, h2_, h3_, h4_, h5_, h6_, h7_, hI⟩
        obtain rfl := h3_ d3_0
        refine r_loadLA hI 2 (cellsAt kc (j * 4) 4) ag_iTerm rfl hR.length (fun i v hi => cellsAt_get rfl i v hi) ?_
        exact ⟨h0_, h1_, h2_, h3_, fun _ => rfl, h5_, h6_, h7_, hI⟩
      · intro D hD_  x6 x24 x23 x22 x21 x20 x19 x18 w_
        rintro ⟨h0_, h1_, h2_, h3_, h4_, h5_, h6_, h7_, hI⟩
        refine r_loadW hI 1 ag_iTerm rfl rfl ?_
        exact ⟨h0_, h1_, h2_, h3_, h4_, fun _ => rfl, h6_, h7_, hI⟩
      · intro D hD_ d4_0 d5_1 x6 x24 x23 x22 x21 x20 x19 x18 w_
        rintro ⟨h0_, h1_, h2_, h3_, h4_, h5_, h6_, h7_, hI⟩
        obtain rfl := h4_ d4_0
        obtain rfl := h5_ d5_1
        refine Run.callPure fn_s_TermSame nm_s_TermSame hI (s_TermSame_calls t0 _ S _ _ hR hds) fun w_ hI => ?_
        exact ⟨h0_, h1_, h2_, h3_, h4_, h5_, fun _ => rfl, h7_, hI⟩
      · intro D hD_ d6_0 d6_1 d0_2 d1_3 d2_4 d3_5 d4_6 d5_7 d6_8 x6 x24 x23 x22 x21 x20 x19 x18 w_
        rintro ⟨h0_, h1_, h2_, h3_, h4_, h5_, h6_, h7_, hI⟩
        obtain rfl := h6_ d6_0
        exact ⟨h0_, h1_, h2_, h3_, h4_, h5_, h6_, fun _ => rfl, hI⟩
      intro D d7_ d6_ d5_ d4_ d3_ d2_ d1_ d0_ x6 x24 x23 x22 x21 x20 x19 x18 w_
      rintro ⟨h0_, h1_, h2_, h3_, h4_, h5_, h6_, h7_, hI⟩
      obtain rfl := h7_ d7_
      obtain rfl := h6_ d6_
      obtain rfl := h5_ d5_
      obtain rfl := h4_ d4_
      obtain rfl := h3_ d3_
      obtain rfl := h2_ d2_
      obtain rfl := h1_ d1_
      obtain rfl := h0_ d0_
      clear h0_ h1_ h2_ h3_ h4_ h5_ h6_ h7_
      have hm : matchT (.mk k j s ks) (.mk k' n' s' ks') st = (eqT t0 (.mk k' n' s' ks'), st) := by
        rw [matchT, if_pos hk1, Int.toNat_natCast, List.getElem?_eq_getElem hjs, hst2]
      rw [hm]
      exact ⟨_, _, _, rfl, hI.pick [false, false, true], Ext.refl _ _ _, rfl, rfl, _, rfl, hkc⟩
  refine ⟨fun q w' => q = .bool (!hdEq (.mk k n s ks) (.mk k' n' s' ks')) ∧ Inv w X [.blk b1 (.cells #[.int .i64 k, .int .i64 n, .string s, kv] t_iTerm), .blk b2 (.cells #[.int .i64 k', .int .i64 n', .string s', kv'] t_iTerm), .blk kb (.cells kc t_iTerm)] S w', ?_, ?_⟩
  · refine r_fieldL hI 0 rfl fo_iTerm_0 sc_int rfl ?_
    refine r_fieldL hI 1 rfl fo_iTerm_0 sc_int rfl ?_
    refine r_neq ?_
    by_cases e1 : k = k'
    · rw [decide_eq_true e1]
      repeat (first | refine guard_true ?_ | refine guard_ne (by decide) ?_ | refine guard_undef ?_ | refine r_pickT ?_ | refine r_pickF ?_)
      refine r_fieldL hI 0 rfl fo_iTerm_1 sc_int rfl ?_
      refine r_fieldL hI 1 rfl fo_iTerm_1 sc_int rfl ?_
      refine r_neq ?_
      by_cases e2 : n = n'
      · rw [decide_eq_true e2]
        repeat (first | refine guard_true ?_ | refine guard_ne (by decide) ?_ | refine guard_undef ?_ | refine r_pickT ?_ | refine r_pickF ?_)
        refine r_fieldL hI 0 rfl fo_iTerm_2 sc_string rfl ?_
        refine r_fieldL hI 1 rfl fo_iTerm_2 sc_string rfl ?_
        refine r_sneq ?_
        by_cases e3 : s = s'
        · rw [decide_eq_true e3]
          repeat (first | refine guard_true ?_ | refine guard_ne (by decide) ?_ | refine guard_undef ?_ | refine r_pickT ?_ | refine r_pickF ?_)
          refine r_fieldL hI 0 rfl fo_iTerm_3 sc_SiTerm rfl ?_
          refine r_lenSl hks sl_SiTerm ?_
          refine r_fieldL hI 1 rfl fo_iTerm_3 sc_SiTerm rfl ?_
          refine r_lenSl hks' sl_SiTerm ?_
          refine r_neq ?_
          repeat (first | refine guard_true ?_ | refine guard_ne (by decide) ?_ | refine guard_undef ?_ | refine r_pickT ?_ | refine r_pickF ?_)
          exact ⟨by rw [hdEq_mk, decide_eq_true e1, decide_eq_true e2, decide_eq_true e3, lenEq]; rfl, hI⟩
        · rw [decide_eq_false e3]
          repeat (first | refine guard_true ?_ | refine guard_ne (by decide) ?_ | refine guard_undef ?_ | refine r_pickT ?_ | refine r_pickF ?_)
          exact ⟨by rw [hdEq_mk, decide_eq_true e1, decide_eq_true e2, decide_eq_false e3]; rfl, hI⟩
      · rw [decide_eq_false e2]
        repeat (first | refine guard_true ?_ | refine guard_ne (by decide) ?_ | refine guard_undef ?_ | refine r_pickT ?_ | refine r_pickF ?_)
        exact ⟨by rw [hdEq_mk, decide_eq_true e1, decide_eq_false e2]; rfl, hI⟩
    · rw [decide_eq_false e1]
      repeat (first | refine guard_true ?_ | refine guard_ne (by decide) ?_ | refine guard_undef ?_ | refine r_pickT ?_ | refine r_pickF ?_)
      exact ⟨by rw [hdEq_mk, decide_eq_false e1]; rfl, hI⟩

  intro q _ _ _ _ _ _ _ _ _ _ _ _ _ _ _ _ _ _ _ _ _ _ _ _ _ _ _ w'
  rintro ⟨rfl, hI⟩
  cases hd : hdEq (.mk k n s ks) (.mk k' n' s' ks')
  · refine condV (fun _ => ?_) (fun hb => by cases hb)
    have hm : matchT (.mk k n s ks) (.mk k' n' s' ks') st = (false, st) := by rw [matchT, if_neg hk1, if_neg (by rw [hd]; decide)]
    rw [hm]
    exact ⟨_, _, _, rfl, hI.pick [false, false, true], Ext.refl _ _ _, rfl, rfl, _, rfl, hkc⟩
  refine condV (fun hb => by cases hb) (fun _ => ?_)
  have hle : ks.length = ks'.length := by
    rw [hdEq_mk] at hd
    simp only [Bool.and_eq_true, decide_eq_true_eq] at hd
    exact hd.2.2.2
  have hm : matchT (.mk k n s ks) (.mk k' n' s' ks') st = matchL ks ks' st := by rw [matchT, if_neg hk1, if_pos hd]; rfl
  rw [hm]
  have hu2 := hu.2
  refine ⟨fun i w' => ∃ (j : Nat) (st' : Known) (kc' : Array Value), j ≤ ks.length ∧ i = .int .i64 j ∧ matchL (ks.drop j) (ks'.drop j) st' = matchL ks ks' st ∧ stOk st' ∧ KnownC S kc' st' ∧ Inv w X [.blk b1 (.cells #[.int .i64 k, .int .i64 n, .string s, kv] t_iTerm), .blk b2 (.cells #[.int .i64 k', .int .i64 n', .string s', kv'] t_iTerm), .blk kb (.cells kc' t_iTerm)] S w', fun i _ => ks.length - (intOf i).toNat, ⟨0, st, kc, Nat.zero_le _, rfl, rfl, hst, hkc, hI⟩, ?_⟩
  intro t5 _ _ _ _ _ _ _ _ _ _ _ _ _ _ _ _ _ _ _ _ _ w'
  rintro ⟨j, st', kc', hj, rfl, hrel, hst', hkc', hI⟩
  refine r_fieldL hI 0 rfl fo_iTerm_3 sc_SiTerm rfl ?_
  refine r_lenSl hks sl_SiTerm ?_
  refine r_lss ?_
  refine condP (fun hji => ?_) (fun hji => ?_)
  · have hj1 : j < ks.length := by omega
    have hj2 : j < ks'.length := by omega
    obtain ⟨c1, o1, cap1, a1, E1, fz1, rfl, hS1, hR1⟩ := hks.at_ hj1
    obtain ⟨c2, o2, cap2, a2, E2, fz2, rfl, hS2, hR2⟩ := hks'.at_ hj2
    rw [matchL_drop ks ks' st' j hj1 hj2] at hrel
    have hcall := ih _ (List.getElem_mem hj1) ks'[j] S _ _ kb kc' st' hR1 hR2 (okVL_mem hv2 _ (List.getElem_mem hj1)) (okKL_mem hu2 _ (List.getElem_mem hj2)) hst' hkc'
    have hsn := match_ok ks[j] ks'[j] st' hst' (okKL_mem hu2 _ (List.getElem_mem hj2))
    generalize hr : matchT ks[j] ks'[j] st' = r at hrel hcall hsn
    refine ⟨fun D x77 x76 x75 x74 x73 x72 x71 x70 x69 x68 x67 x66 x65 w_ => (D 0 = true → x65 = .pointer (some ⟨b1, 3, none⟩)) ∧ (D 1 = true → x66 = .slice (some ⟨c1, o1, none⟩) ks.length cap1) ∧ (D 2 = true → x67 = .int .i64 j) ∧ (D 3 = true → x68 = .pointer (some ⟨c1, o1 + j * 4, none⟩)) ∧ (D 4 = true → x69 = .agg (cellsAt a1 (o1 + j * 4) 4).toArray) ∧ (D 5 = true → x70 = .pointer (some ⟨b2, 3, none⟩)) ∧ (D 6 = true → x71 = .slice (some ⟨c2, o2, none⟩) ks'.length cap2) ∧ (D 7 = true → x72 = .int .i64 j) ∧ (D 8 = true → x73 = .pointer (some ⟨c2, o2 + j * 4, none⟩)) ∧ (D 9 = true → x74 = .agg (cellsAt a2 (o2 + j * 4) 4).toArray) ∧ (D 10 = true → x75 = kvn kb kp) ∧ (D 11 = true → x76 = .bool r.1) ∧ (D 12 = true → x77 = .bool (!r.1)) ∧ (D 11 = false → Inv w X [.blk b1 (.cells #[.int .i64 k, .int .i64 n, .string s, .slice (some ⟨c1, o1, none⟩) ks.length cap1] t_iTerm), .blk b2 (.cells #[.int .i64 k', .int .i64 n', .string s', .slice (some ⟨c2, o2, none⟩) ks'.length cap2] t_iTerm), .blk kb (.cells kc' t_iTerm)] S w_) ∧ (D 11 = true → ∃ kc2, KnownC S kc2 r.2 ∧ Inv w X [.blk b1 (.cells #[.int .i64 k, .int .i64 n, .string s, .slice (some ⟨c1, o1, none⟩) ks.length cap1] t_iTerm), .blk b2 (.cells #[.int .i64 k', .int .i64 n', .string s', .slice (some ⟨c2, o2, none⟩) ks'.length cap2] t_iTerm), .blk kb (.cells kc2 t_iTerm)] S w_) ∧ ∃ kc3, Inv w X [.blk b1 (.cells #[.int .i64 k, .int .i64 n, .string s, .slice (some ⟨c1, o1, none⟩) ks.length cap1] t_iTerm), .blk b2 (.cells #[.int .i64 k', .int .i64 n', .string s', .slice (some ⟨c2, o2, none⟩) ks'.length cap2] t_iTerm), .blk kb (.cells kc3 t_iTerm)] S w_, ⟨fun h => Bool.noConfusion h, fun h => Bool.noConfusion h, fun h => Bool.noConfusion h, fun h => Bool.noConfusion h, fun h => Bool.noConfusion h, fun h => Bool.noConfusion h, fun h => Bool.noConfusion h, fun h => Bool.noConfusion h, fun h => Bool.noConfusion h, fun h => Bool.noConfusion h, fun h => Bool.noConfusion h, fun h => Bool.noConfusion h, fun h => Bool.noConfusion h, ⟨fun _ => hI.draw, fun h => Bool.noConfusion h, kc', hI.draw⟩⟩, ⟨?_, ?_, ?_, ?_, ?_, ?_, ?_, ?_, ?_, ?_, ?_, ?_, ?_, trivial⟩, ?_⟩
    · intro D hD_  x77 x76 x75 x74 x73 x72 x71 x70 x69 x68 x67 x66 x65 w_
      rintro ⟨h0_, h1_, h2_, h3_, h4_, h5_, h6_, h7_, h8_, h9_, h10_, h11_, h12_, ⟨hI0, hI1, kc3, hI⟩⟩
      refine r_field fo_iTerm_3 ?_
      exact ⟨fun _ => rfl, h1_, h2_, h3_, h4_, h5_, h6_, h7_, h8_, h9_, h10_, h11_, h12_, ⟨hI0, hI1, kc3, hI⟩⟩
    · intro D hD_ d0_0 x77 x76 x75 x74 x73 x72 x71 x70 x69 x68 x67 x66 x65 w_
      rintro ⟨h0_, h1_, h2_, h3_, h4_, h5_, h6_, h7_, h8_, h9_, h10_, h11_, h12_, ⟨hI0, hI1, kc3, hI⟩⟩
      obtain rfl := h0_ d0_0
      refine r_loadL hI 0 sc_SiTerm rfl rfl ?_
      exact ⟨h0_, fun _ => rfl, h2_, h3_, h4_, h5_, h6_, h7_, h8_, h9_, h10_, h11_, h12_, ⟨hI0, hI1, kc3, hI⟩⟩
    · intro D hD_  x77 x76 x75 x74 x73 x72 x71 x70 x69 x68 x67 x66 x65 w_
      rintro ⟨h0_, h1_, h2_, h3_, h4_, h5_, h6_, h7_, h8_, h9_, h10_, h11_, h12_, ⟨hI0, hI1, kc3, hI⟩⟩
      exact ⟨h0_, h1_, fun _ => rfl, h3_, h4_, h5_, h6_, h7_, h8_, h9_, h10_, h11_, h12_, ⟨hI0, hI1, kc3, hI⟩⟩
    · intro D hD_ d1_0 d2_1 x77 x76 x75 x74 x73 x72 x71 x70 x69 x68 x67 x66 x65 w_
      rintro ⟨h0_, h1_, h2_, h3_, h4_, h5_, h6_, h7_, h8_, h9_, h10_, h11_, h12_, ⟨hI0, hI1, kc3, hI⟩⟩
      obtain rfl := h1_ d1_0
      obtain rfl := h2_ d2_1
      refine r_indexAddr sl_SiTerm hj1 ?_
      exact ⟨h0_, h1_, h2_, fun _ => rfl, h4_, h5_, h6_, h7_, h8_, h9_, h10_, h11_, h12_, ⟨hI0, hI1, kc3, hI⟩⟩
    · intro D hD_ d3_0 x77 x76 x75 x74 x73 x72 x71 x70 x69 x68 x67 x66 x65 w_
      rintro ⟨h0_, h1_, h2_, h3_, h4_, h5_, h6_, h7_, h8_, h9_, h10_, h11_, h12_, ⟨hI0, hI1, kc3, hI⟩⟩
      obtain rfl := h3_ d3_0
      refine r_loadA ag_iTerm hR1.length (fun j v hj => by rw [hI.cellS hS1]; exact cellsAt_get rfl j v hj) ?_
      exact ⟨h0_, h1_, h2_, h3_, fun _ => rfl, h5_, h6_, h7_, h8_, h9_, h10_, h11_, h12_, ⟨hI0, hI1, kc3, hI⟩⟩
    · intro D hD_  x77 x76 x75 x74 x73 x72 x71 x70 x69 x68 x67 x66 x65 w_
      rintro ⟨h0_, h1_, h2_, h3_, h4_, h5_, h6_, h7_, h8_, h9_, h10_, h11_, h12_, ⟨hI0, hI1, kc3, hI⟩⟩
      refine r_field fo_iTerm_3 ?_
      exact ⟨h0_, h1_, h2_, h3_, h4_, fun _ => rfl, h6_, h7_, h8_, h9_, h10_, h11_, h12_, ⟨hI0, hI1, kc3, hI⟩⟩
    · intro D hD_ d5_0 x77 x76 x75 x74 x73 x72 x71 x70 x69 x68 x67 x66 x65 w_
      rintro ⟨h0_, h1_, h2_, h3_, h4_, h5_, h6_, h7_, h8_, h9_, h10_, h11_, h12_, ⟨hI0, hI1, kc3, hI⟩⟩
      obtain rfl := h5_ d5_0
      refine r_loadL hI 1 sc_SiTerm rfl rfl ?_
      exact ⟨h0_, h1_, h2_, h3_, h4_, h5_, fun _ => rfl, h7_, h8_, h9_, h10_, h11_, h12_, ⟨hI0, hI1, kc3, hI⟩⟩
    · intro D hD_  x77 x76 x75 x74 x73 x72 x71 x70 x69 x68 x67 x66 x65 w_
      rintro ⟨h0_, h1_, h2_, h3_, h4_, h5_, h6_, h7_, h8_, h9_, h10_, h11_, h12_, ⟨hI0, hI1, kc3, hI⟩⟩
      exact ⟨h0_, h1_, h2_, h3_, h4_, h5_, h6_, fun _ => rfl, h8_, h9_, h10_, h11_, h12_, ⟨hI0, hI1, kc3, hI⟩⟩
    · intro D hD_ d6_0 d7_1 x77 x76 x75 x74 x73 x72 x71 x70 x69 x68 x67 x66 x65 w_
      rintro ⟨h0_, h1_, h2_, h3_, h4_, h5_, h6_, h7_, h8_, h9_, h10_, h11_, h12_, ⟨hI0, hI1, kc3, hI⟩⟩
      obtain rfl := h6_ d6_0
      obtain rfl := h7_ d7_1
      refine r_indexAddr sl_SiTerm hj2 ?_
      exact ⟨h0_, h1_, h2_, h3_, h4_, h5_, h6_, h7_, fun _ => rfl, h9_, h10_, h11_, h12_, ⟨hI0, hI1, kc3, hI⟩⟩
    · intro D hD_ d8_0 x77 x76 x75 x74 x73 x72 x71 x70 x69 x68 x67 x66 x65 w_
      rintro ⟨h0_, h1_, h2_, h3_, h4_, h5_, h6_, h7_, h8_, h9_, h10_, h11_, h12_, ⟨hI0, hI1, kc3, hI⟩⟩
      obtain rfl := h8_ d8_0
      refine r_loadA ag_iTerm hR2.length (fun j v hj => by rw [hI.cellS hS2]; exact cellsAt_get rfl j v hj) ?_
      exact ⟨h0_, h1_, h2_, h3_, h4_, h5_, h6_, h7_, h8_, fun _ => rfl, h10_, h11_, h12_, ⟨hI0, hI1, kc3, hI⟩⟩
    · intro D hD_  x77 x76 x75 x74 x73 x72 x71 x70 x69 x68 x67 x66 x65 w_
      rintro ⟨h0_, h1_, h2_, h3_, h4_, h5_, h6_, h7_, h8_, h9_, h10_, h11_, h12_, ⟨hI0, hI1, kc3, hI⟩⟩
      exact ⟨h0_, h1_, h2_, h3_, h4_, h5_, h6_, h7_, h8_, h9_, fun _ => rfl, h11_, h12_, ⟨hI0, hI1, kc3, hI⟩⟩
    · intro D hD_ d4_0 d9_1 d10_2 x77 x76 x75 x74 x73 x72 x71 x70 x69 x68 x67 x66 x65 w_
      rintro ⟨h0_, h1_, h2_, h3_, h4_, h5_, h6_, h7_, h8_, h9_, h10_, h11_, h12_, ⟨hI0, hI1, kc3, hI⟩⟩
      obtain rfl := h4_ d4_0
      obtain rfl := h9_ d9_1
      obtain rfl := h10_ d10_2
      refine Run.call (A := [_, _]) fn_s_l3Match nm_s_l3Match (hI0 hD_) hcall fun v' I' S w_ => ?_
      rintro ⟨rfl, rfl, kc2, rfl, hk2⟩ _ hI
      have hI0 := fun (h : setD D 11 11 = false) => (Bool.noConfusion h : Inv w X [.blk b1 (.cells #[.int .i64 k, .int .i64 n, .string s, .slice (some ⟨c1, o1, none⟩) ks.length cap1] t_iTerm), .blk b2 (.cells #[.int .i64 k', .int .i64 n', .string s', .slice (some ⟨c2, o2, none⟩) ks'.length cap2] t_iTerm), .blk kb (.cells kc' t_iTerm)] S w_)
      have hI1 := fun (_ : setD D 11 11 = true) => (⟨kc2, hk2, hI⟩ : ∃ kc2, KnownC S kc2 r.2 ∧ Inv w X [.blk b1 (.cells #[.int .i64 k, .int .i64 n, .string s, .slice (some ⟨c1, o1, none⟩) ks.length cap1] t_iTerm), .blk b2 (.cells #[.int .i64 k', .int .i64 n', .string s', .slice (some ⟨c2, o2, none⟩) ks'.length cap2] t_iTerm), .blk kb (.cells kc2 t_iTerm)] S w_)
      obtain ⟨kc3, hI⟩ : ∃ kc3, Inv w X [.blk b1 (.cells #[.int .i64 k, .int .i64 n, .string s, .slice (some ⟨c1, o1, none⟩) ks.length cap1] t_iTerm), .blk b2 (.cells #[.int .i64 k', .int .i64 n', .string s', .slice (some ⟨c2, o2, none⟩) ks'.length cap2] t_iTerm), .blk kb (.cells kc3 t_iTerm)] S w_ := ⟨kc2, hI⟩
      exact ⟨h0_, h1_, h2_, h3_, h4_, h5_, h6_, h7_, h8_, h9_, h10_, fun _ => rfl, h12_, ⟨hI0, hI1, kc3, hI⟩⟩
    · intro D hD_ d11_0 x77 x76 x75 x74 x73 x72 x71 x70 x69 x68 x67 x66 x65 w_
      rintro ⟨h0_, h1_, h2_, h3_, h4_, h5_, h6_, h7_, h8_, h9_, h10_, h11_, h12_, ⟨hI0, hI1, kc3, hI⟩⟩
      obtain rfl := h11_ d11_0
      refine r_not ?_
      exact ⟨h0_, h1_, h2_, h3_, h4_, h5_, h6_, h7_, h8_, h9_, h10_, h11_, fun _ => rfl, ⟨hI0, hI1, kc3, hI⟩⟩
    intro D d12_ d11_ d10_ d9_ d8_ d7_ d6_ d5_ d4_ d3_ d2_ d1_ d0_ x77 x76 x75 x74 x73 x72 x71 x70 x69 x68 x67 x66 x65 w_
    rintro ⟨h0_, h1_, h2_, h3_, h4_, h5_, h6_, h7_, h8_, h9_, h10_, h11_, h12_, ⟨hI0, hI1, kc3, hI⟩⟩
    obtain rfl := h12_ d12_
    obtain rfl := h11_ d11_
    obtain rfl := h10_ d10_
    obtain rfl := h9_ d9_
    obtain rfl := h8_ d8_
    obtain rfl := h7_ d7_
    obtain rfl := h6_ d6_
    obtain rfl := h5_ d5_
    obtain rfl := h4_ d4_
    obtain rfl := h3_ d3_
    obtain rfl := h2_ d2_
    obtain rfl := h1_ d1_
    obtain rfl := h0_ d0_
    clear h0_ h1_ h2_ h3_ h4_ h5_ h6_ h7_ h8_ h9_ h10_ h11_ h12_
    obtain ⟨kc2, hk2, hI⟩ := hI1 d11_
    clear hI0 hI1
    refine condV (fun hne => ?_) (fun he' => ?_)
    · simp only [Bool.not_eq_true'] at hne
      rw [hne, if_neg (by decide)] at hrel
      rw [← hrel]
      exact ⟨_, _, _, rfl, hI.pick [false, false, true], Ext.refl _ _ _, rfl, rfl, _, rfl, hk2⟩
    · simp only [Bool.not_eq_false'] at he'
      rw [he', if_pos rfl] at hrel
      refine r_add (by omega) ?_
      exact ⟨⟨j + 1, r.2, kc2, hj1, rfl, hrel, hsn, hk2, hI⟩, by simp [intOf]; omega⟩
  · have : j = ks.length := by omega
    subst this
    rw [List.drop_length, hle, List.drop_length] at hrel
    rw [← hrel]
    exact ⟨_, _, _, rfl, hI.pick [false, false, true], Ext.refl _ _ _, rfl, rfl, _, rfl, hkc'⟩
end

end Go.Proofs.YtgdibnmabnimaaaGreat

/- The standard order of terms: a total order on well-formed terms. -/
namespace Go.Proofs.YtgdibnmabnimaaaGreat
open Go Go.RowKit

theorem bl_trans : ∀ (a b c : List UInt8), Op.bytesLess a b = true → Op.bytesLess b c = true → Op.bytesLess a c = true
  | _, [], _, h, _ => by simp [Op.bytesLess] at h
  | _, _ :: _, [], _, h => by simp [Op.bytesLess] at h
  | [], _ :: _, _ :: _, _, _ => by simp [Op.bytesLess]
  | x :: a, y :: b, z :: c, h, h' => by
    simp only [Op.bytesLess, Bool.or_eq_true, decide_eq_true_eq, Bool.and_eq_true, beq_iff_eq] at h h' ⊢
    rcases h with h | ⟨rfl, h⟩
    · rcases h' with h' | ⟨rfl, h'⟩
      · left; exact UInt8.lt_trans h h'
      · left; exact h
    · rcases h' with h' | ⟨rfl, h'⟩
      · left; exact h'
      · right; exact ⟨rfl, bl_trans a b c h h'⟩
theorem bl_irrefl : ∀ a : List UInt8, Op.bytesLess a a = false
  | [] => by simp [Op.bytesLess]
  | x :: a => by
    simp only [Op.bytesLess, bl_irrefl a, Bool.and_false, Bool.or_false, decide_eq_false_iff_not]
    exact UInt8.lt_irrefl x
theorem bl_total : ∀ a b : List UInt8, a ≠ b → Op.bytesLess a b = true ∨ Op.bytesLess b a = true
  | [], [], h => absurd rfl h
  | [], _ :: _, _ => .inl (by simp [Op.bytesLess])
  | _ :: _, [], _ => .inr (by simp [Op.bytesLess])
  | x :: a, y :: b, h => by
    simp only [Op.bytesLess, Bool.or_eq_true, decide_eq_true_eq, Bool.and_eq_true, beq_iff_eq]
    by_cases e : x = y
    · subst e
      rcases bl_total a b (fun e => h (by rw [e])) with h1 | h1
      · exact .inl (.inr ⟨rfl, h1⟩)
      · exact .inr (.inr ⟨rfl, h1⟩)
    · rcases UInt8.lt_or_lt_of_ne e with h1 | h1
      · exact .inl (.inl h1)
      · exact .inr (.inl h1)
def bls (a b : ByteArray) : Bool := Op.bytesLess a.toList b.toList
def lessI (a b : Int) : Int := if a < b then -1 else if b < a then 1 else 0
def beforeS (a b : ByteArray) : Int := if bls a b = true then -1 else if bls b a = true then 1 else 0
def rkS (t : T) : Int := if t.kind = 3 ∧ 0 < t.kids.length then 4 else t.kind
def lexC (a b : Int) : Int := if a ≠ 0 then a else b
/- the head of a term: all but its kids -/
def hdC (t u : T) : Int := lexC (lessI (rkS t) (rkS u)) (lexC (lessI t.n u.n) (lexC (lessI t.kids.length u.kids.length) (beforeS t.name u.name)))
mutual
def cmpT : T → T → Int
  | .mk k n s ks, u => lexC (hdC (.mk k n s ks) u) (cmpL ks u.kids)
def cmpL : List T → List T → Int
  | [], [] => 0
  | [], _ :: _ => -1
  | _ :: _, [] => 1
  | t :: ts, u :: us => lexC (cmpT t u) (cmpL ts us)
end
mutual
def okO : T → Prop
  | .mk k n s ks => (((k = 1 ∨ k = 2) ∧ s = emptyB ∧ ks = []) ∨ (k = 3 ∧ n = 0)) ∧ okOL ks
def okOL : List T → Prop
  | [] => True
  | t :: ts => okO t ∧ okOL ts
end
theorem ownB_okO {t : T} (h : ownB t = true) : ((t.kind = 1 ∨ t.kind = 2) ∧ t.name = emptyB ∧ t.kids = []) ∨ (t.kind = 3 ∧ t.n = 0) := by
  unfold ownB at h
  by_cases e1 : t.kind = 1
  · rw [if_pos e1] at h
    simp only [Bool.and_eq_true, decide_eq_true_eq] at h
    exact .inl ⟨.inl e1, h.2.2.1, List.eq_nil_of_length_eq_zero h.2.2.2⟩
  · rw [if_neg e1] at h
    by_cases e2 : t.kind = 2
    · rw [if_pos e2] at h
      simp only [Bool.and_eq_true, decide_eq_true_eq] at h
      exact .inl ⟨.inr e2, h.2.2.1, List.eq_nil_of_length_eq_zero h.2.2.2⟩
    · rw [if_neg e2] at h
      by_cases e3 : t.kind = 3
      · rw [if_pos e3] at h
        simp only [Bool.and_eq_true, decide_eq_true_eq] at h
        exact .inr ⟨e3, h.1⟩
      · rw [if_neg e3] at h
        cases h
mutual
theorem shape_okO : ∀ (t : T) (d : Int), shapeT t d = true → okO t
  | .mk k n s ks, d, h => by
    rw [shapeT] at h
    split at h
    · cases h
    · rw [Bool.and_eq_true] at h
      rw [okO]
      refine ⟨?_, shapeL_okO ks (d - 1) h.2⟩
      exact ownB_okO h.1
theorem shapeL_okO : ∀ (ts : List T) (d : Int), shapeL ts d = true → okOL ts
  | [], d, h => by simp [okOL]
  | t :: ts, d, h => by
    rw [shapeL, Bool.and_eq_true] at h
    rw [okOL]
    exact ⟨shape_okO t d h.1, shapeL_okO ts d h.2⟩
end
theorem valid_okO {t : T} (h : validB t = true) : okO t := by
  rw [validB, Bool.and_eq_true] at h
  exact shape_okO t _ h.1
theorem lessI_cases (a b : Int) : (a < b ∧ lessI a b = -1) ∨ (b < a ∧ lessI a b = 1) ∨ (a = b ∧ lessI a b = 0) := by
  unfold lessI
  by_cases h : a < b
  · exact .inl ⟨h, if_pos h⟩
  · by_cases h' : b < a
    · exact .inr (.inl ⟨h', by rw [if_neg h, if_pos h']⟩)
    · exact .inr (.inr ⟨by omega, by rw [if_neg h, if_neg h']⟩)
theorem toList_inj {a b : ByteArray} (h : a.toList = b.toList) : a = b := by
  have := bytes_eq a b
  rw [beq_iff_eq.2 h] at this
  exact of_decide_eq_true this.symm
theorem beforeS_cases (a b : ByteArray) : (bls a b = true ∧ beforeS a b = -1) ∨ (bls b a = true ∧ bls a b = false ∧ beforeS a b = 1) ∨ (a = b ∧ beforeS a b = 0) := by
  unfold beforeS
  cases h : bls a b with
  | true => exact .inl ⟨rfl, if_pos rfl⟩
  | false =>
    cases h' : bls b a with
    | true => exact .inr (.inl ⟨rfl, rfl, by simp⟩)
    | false =>
      refine .inr (.inr ⟨?_, by simp⟩)
      refine toList_inj (Decidable.byContradiction fun e => ?_)
      rcases bl_total _ _ e with h1 | h1
      · rw [bls, h1] at h; cases h
      · rw [bls, h1] at h'; cases h'
theorem bls_asym {a b : ByteArray} (h : bls a b = true) : bls b a = false := by
  cases h' : bls b a with
  | false => rfl
  | true =>
    have := bl_trans _ _ _ h h'
    rw [bl_irrefl] at this
    cases this

/- how three comparisons fit -/
structure TC (a b c : Int) : Prop where
  lt : a = -1 → b = -1 → c = -1
  e1 : a = 0 → c = b
  e2 : b = 0 → c = a
theorem TC.lex {a b c a' b' c' : Int} (h : TC a b c) (h' : TC a' b' c') : TC (lexC a a') (lexC b b') (lexC c c') := by
  obtain ⟨h1, h2, h3⟩ := h
  obtain ⟨h4, h5, h6⟩ := h'
  unfold lexC
  refine ⟨fun x y => ?_, fun x => ?_, fun x => ?_⟩
  · by_cases ea : a = 0
    · rw [if_neg (by omega)] at x
      by_cases eb : b = 0
      · rw [if_neg (by omega)] at y
        rw [if_neg (by have := h2 ea; omega)]
        exact h4 x y
      · rw [if_pos (by omega)] at y
        have := h2 ea
        rw [if_pos (by omega)]; omega
    · rw [if_pos (by omega)] at x
      by_cases eb : b = 0
      · have := h3 eb
        rw [if_pos (by omega)]; omega
      · rw [if_pos (by omega)] at y
        have := h1 x y
        rw [if_pos (by omega)]; omega
  · by_cases ea : a = 0
    · rw [if_neg (by omega)] at x
      rw [h2 ea, h5 x]
    · rw [if_pos (by omega)] at x; omega
  · by_cases eb : b = 0
    · rw [if_neg (by omega)] at x
      rw [h3 eb, h6 x]
    · rw [if_pos (by omega)] at x; omega
theorem TC.zero : TC 0 0 0 := ⟨fun h => by omega, fun _ => rfl, fun _ => rfl⟩
theorem TC.int (a b c : Int) : TC (lessI a b) (lessI b c) (lessI a c) := by
  have h1 := lessI_cases a b
  have h2 := lessI_cases b c
  have h3 := lessI_cases a c
  exact ⟨fun _ _ => by omega, fun _ => by omega, fun _ => by omega⟩
theorem TC.str (a b c : ByteArray) : TC (beforeS a b) (beforeS b c) (beforeS a c) := by
  refine ⟨fun x y => ?_, fun x => ?_, fun x => ?_⟩
  · rcases beforeS_cases a b with h | h | h
    · rcases beforeS_cases b c with h' | h' | h'
      · have := bl_trans _ _ _ h.1 h'.1
        unfold beforeS
        rw [if_pos (show bls a c = true from this)]
      · omega
      · omega
    · omega
    · omega
  · rcases beforeS_cases a b with h | h | h
    · omega
    · omega
    · rw [h.1]
  · rcases beforeS_cases b c with h | h | h
    · omega
    · omega
    · rw [h.1]
theorem TC.hd (t u v : T) : TC (hdC t u) (hdC u v) (hdC t v) := (TC.int _ _ _).lex ((TC.int _ _ _).lex ((TC.int _ _ _).lex (TC.str _ _ _)))
mutual
theorem TC.term : ∀ t u v : T, TC (cmpT t u) (cmpT u v) (cmpT t v)
  | .mk k n s ks, .mk k' n' s' ks', v => by
    rw [cmpT, cmpT, cmpT]
    exact (TC.hd _ _ _).lex (TC.list ks ks' v.kids)
theorem TC.list : ∀ t u v : List T, TC (cmpL t u) (cmpL u v) (cmpL t v)
  | [], [], [] => by simpa [cmpL] using TC.zero
  | [], [], _ :: _ => by rw [cmpL, cmpL]; exact ⟨fun h => by omega, fun _ => rfl, fun h => by omega⟩
  | [], _ :: _, [] => by rw [cmpL, cmpL, cmpL]; exact ⟨fun _ h => by omega, fun h => by omega, fun h => by omega⟩
  | [], _ :: _, _ :: _ => by rw [cmpL, cmpL]; exact ⟨fun h _ => h, fun h => by omega, fun h => rfl⟩
  | _ :: _, [], [] => by rw [cmpL, cmpL]; exact ⟨fun h _ => h, fun h => by omega, fun h => rfl⟩
  | _ :: _, [], _ :: _ => by rw [cmpL, cmpL]; exact ⟨fun h _ => by omega, fun h => by omega, fun h => by omega⟩
  | _ :: _, _ :: _, [] => by rw [cmpL, cmpL]; exact ⟨fun _ h => by omega, fun h => rfl, fun h => by omega⟩
  | t :: ts, u :: us, v :: vs => by
    rw [cmpL, cmpL, cmpL]
    exact (TC.term t u v).lex (TC.list ts us vs)
end
theorem lexC_neg (a b : Int) : -(lexC a b) = lexC (-a) (-b) := by
  unfold lexC
  by_cases h : a = 0
  · subst h; simp
  · rw [if_pos h, if_pos (by omega)]
theorem lessI_swap (a b : Int) : lessI b a = -lessI a b := by
  have := lessI_cases a b
  have := lessI_cases b a
  omega
theorem beforeS_swap (a b : ByteArray) : beforeS b a = -beforeS a b := by
  rcases beforeS_cases a b with h | h | h
  · rw [h.2]
    have := bls_asym h.1
    unfold beforeS
    rw [this, if_neg (by decide), if_pos h.1]; rfl
  · rw [h.2.2]
    unfold beforeS
    rw [if_pos h.1]
  · rw [h.2]
    obtain rfl := h.1
    rw [h.2]; rfl
theorem hdC_swap (t u : T) : hdC u t = -hdC t u := by
  rw [hdC, hdC, lexC_neg, lexC_neg, lexC_neg, lessI_swap (rkS t), lessI_swap t.n, lessI_swap t.kids.length, beforeS_swap t.name]
mutual
theorem cmpT_swap : ∀ t u : T, cmpT u t = -cmpT t u
  | .mk k n s ks, .mk k' n' s' ks' => by
    rw [cmpT, cmpT, lexC_neg, hdC_swap (.mk k n s ks)]
    congr 1
    exact cmpL_swap ks ks'
theorem cmpL_swap : ∀ t u : List T, cmpL u t = -cmpL t u
  | [], [] => by simp [cmpL]
  | [], _ :: _ => by simp [cmpL]
  | _ :: _, [] => by simp [cmpL]
  | t :: ts, u :: us => by rw [cmpL, cmpL, lexC_neg, cmpT_swap t u, cmpL_swap ts us]
end
theorem lexC_zero {a b : Int} (h : lexC a b = 0) : a = 0 ∧ b = 0 := by
  unfold lexC at h
  by_cases e : a = 0
  · rw [if_neg (by omega)] at h; exact ⟨e, h⟩
  · rw [if_pos e] at h; exact ⟨h, by omega⟩
theorem lexC_val {a b : Int} (h : a = -1 ∨ a = 0 ∨ a = 1) (h' : b = -1 ∨ b = 0 ∨ b = 1) : lexC a b = -1 ∨ lexC a b = 0 ∨ lexC a b = 1 := by
  unfold lexC
  split
  · exact h
  · exact h'
theorem lessI_val (a b : Int) : lessI a b = -1 ∨ lessI a b = 0 ∨ lessI a b = 1 := by have := lessI_cases a b; omega
theorem beforeS_val (a b : ByteArray) : beforeS a b = -1 ∨ beforeS a b = 0 ∨ beforeS a b = 1 := by
  rcases beforeS_cases a b with h | h | h
  · exact .inl h.2
  · exact .inr (.inr h.2.2)
  · exact .inr (.inl h.2)
theorem hdC_val (t u : T) : hdC t u = -1 ∨ hdC t u = 0 ∨ hdC t u = 1 := lexC_val (lessI_val _ _) (lexC_val (lessI_val _ _) (lexC_val (lessI_val _ _) (beforeS_val _ _)))
mutual
theorem cmpT_val : ∀ t u : T, cmpT t u = -1 ∨ cmpT t u = 0 ∨ cmpT t u = 1
  | .mk k n s ks, u => by rw [cmpT]; exact lexC_val (hdC_val _ _) (cmpL_val ks u.kids)
theorem cmpL_val : ∀ t u : List T, cmpL t u = -1 ∨ cmpL t u = 0 ∨ cmpL t u = 1
  | [], [] => by simp [cmpL]
  | [], _ :: _ => by simp [cmpL]
  | _ :: _, [] => by simp [cmpL]
  | t :: ts, u :: us => by rw [cmpL]; exact lexC_val (cmpT_val t u) (cmpL_val ts us)
end
theorem okO_own {t : T} (h : okO t) : ((t.kind = 1 ∨ t.kind = 2) ∧ t.name = emptyB ∧ t.kids = []) ∨ (t.kind = 3 ∧ t.n = 0) := by
  cases t
  rw [okO] at h
  exact h.1
theorem rkS_leaf {t : T} (h : t.kids = []) : rkS t = t.kind := by
  rw [rkS, h]
  simp
theorem hdC_zero {t u : T} (ht : okO t) (hu : okO u) (h : hdC t u = 0) : t.kind = u.kind ∧ t.n = u.n ∧ t.name = u.name ∧ t.kids.length = u.kids.length := by
  rw [hdC] at h
  obtain ⟨h1, h⟩ := lexC_zero h
  obtain ⟨h2, h⟩ := lexC_zero h
  obtain ⟨h3, h4⟩ := lexC_zero h
  have c1 := lessI_cases (rkS t) (rkS u)
  have c2 := lessI_cases t.n u.n
  have c3 := lessI_cases t.kids.length u.kids.length
  have e3 : t.kids.length = u.kids.length := by omega
  have e1 : rkS t = rkS u := by omega
  refine ⟨?_, by omega, ?_, e3⟩
  · rcases okO_own ht with ⟨_, _, hk⟩ | ⟨hk, _⟩
    · have hk' : u.kids = [] := List.eq_nil_of_length_eq_zero (by rw [← e3, hk]; rfl)
      rw [rkS_leaf hk, rkS_leaf hk'] at e1
      exact e1
    · rcases okO_own hu with ⟨_, _, hk'⟩ | ⟨hk', _⟩
      · have hk : t.kids = [] := List.eq_nil_of_length_eq_zero (by rw [e3, hk']; rfl)
        rw [rkS_leaf hk, rkS_leaf hk'] at e1
        exact e1
      · rw [hk, hk']
  · rcases beforeS_cases t.name u.name with h | h | h
    · omega
    · omega
    · exact h.1
mutual
theorem cmpT_eq : ∀ t u : T, okO t → okO u → cmpT t u = 0 → t = u
  | .mk k n s ks, .mk k' n' s' ks', ht, hu, h => by
    rw [cmpT] at h
    obtain ⟨h1, h2⟩ := lexC_zero h
    obtain ⟨e1, e2, e3, _⟩ := hdC_zero ht hu h1
    rw [okO] at ht hu
    have := cmpL_eq ks ks' ht.2 hu.2 h2
    simp only [T.kind, T.n, T.name] at e1 e2 e3
    subst e1 e2 e3 this
    rfl
theorem cmpL_eq : ∀ t u : List T, okOL t → okOL u → cmpL t u = 0 → t = u
  | [], [], _, _, _ => rfl
  | [], _ :: _, _, _, h => by simp [cmpL] at h
  | _ :: _, [], _, _, h => by simp [cmpL] at h
  | t :: ts, u :: us, ht, hu, h => by
    rw [cmpL] at h
    rw [okOL] at ht hu
    obtain ⟨h1, h2⟩ := lexC_zero h
    rw [cmpT_eq t u ht.1 hu.1 h1, cmpL_eq ts us ht.2 hu.2 h2]
end
theorem cmpT_self (t : T) : cmpT t t = 0 := by
  have := cmpT_swap t t
  omega
theorem cmpL_self (t : List T) : cmpL t t = 0 := by
  have := cmpL_swap t t
  omega
theorem cmpT_lt {t u v : T} (h : cmpT t u < 0) (h' : cmpT u v < 0) : cmpT t v < 0 := by
  have h1 := cmpT_val t u
  have h2 := cmpT_val u v
  have := (TC.term t u v).lt (by omega) (by omega)
  omega
/- facts in order, each once -/
def insT : List T → T → List T
  | [], t => [t]
  | x :: xs, t => if cmpT x t < 0 then x :: insT xs t else if eqT x t = true then x :: xs else t :: x :: xs
def Sorted : List T → Prop
  | [] => True
  | x :: xs => (∀ y ∈ xs, cmpT x y < 0) ∧ Sorted xs
theorem insT_mem {l : List T} {t y : T} (h : y ∈ insT l t) : y ∈ l ∨ y = t := by
  induction l with
  | nil => rw [insT] at h; exact .inr (List.mem_singleton.1 h)
  | cons x xs ih =>
    rw [insT] at h
    split at h
    · rcases List.mem_cons.1 h with h | h
      · exact .inl (by rw [h]; exact List.mem_cons_self ..)
      · rcases ih h with h | h
        · exact .inl (List.mem_cons_of_mem _ h)
        · exact .inr h
    · split at h
      · exact .inl h
      · rcases List.mem_cons.1 h with h | h
        · exact .inr h
        · exact .inl h
theorem insT_has (l : List T) (t : T) : t ∈ insT l t ∧ ∀ y ∈ l, y ∈ insT l t := by
  induction l with
  | nil => simp [insT]
  | cons x xs ih =>
    rw [insT]
    split
    · exact ⟨List.mem_cons_of_mem _ ih.1, fun y hy => by
        rcases List.mem_cons.1 hy with rfl | hy
        · exact List.mem_cons_self ..
        · exact List.mem_cons_of_mem _ (ih.2 y hy)⟩
    · split
      · rename_i h
        rw [eqT_iff] at h
        subst h
        exact ⟨List.mem_cons_self .., fun y hy => hy⟩
      · exact ⟨List.mem_cons_self .., fun y hy => List.mem_cons_of_mem _ hy⟩
theorem insT_len (l : List T) (t : T) : (insT l t).length ≤ l.length + 1 ∧ l.length ≤ (insT l t).length := by
  induction l with
  | nil => simp [insT]
  | cons x xs ih =>
    rw [insT]
    split
    · simp only [List.length_cons]; omega
    · split
      · simp
      · simp
theorem insT_sorted {l : List T} {t : T} (h : Sorted l) (hl : ∀ x ∈ l, okO x) (ht : okO t) : Sorted (insT l t) := by
  induction l with
  | nil => rw [insT]; exact ⟨fun y hy => (by cases hy), trivial⟩
  | cons x xs ih =>
    rw [Sorted] at h
    rw [insT]
    split
    · rename_i hc
      refine ⟨fun y hy => ?_, ih h.2 fun x hx => hl x (List.mem_cons_of_mem _ hx)⟩
      rcases insT_mem hy with hy | rfl
      · exact h.1 y hy
      · exact hc
    · split
      · exact h
      · rename_i hc he
        have hx : cmpT t x < 0 := by
          have h1 := cmpT_val x t
          have h2 := cmpT_swap x t
          have h3 : cmpT x t ≠ 0 := fun e => he ((eqT_iff _ _).2 (cmpT_eq x t (hl x (List.mem_cons_self ..)) ht e))
          omega
        refine ⟨fun y hy => ?_, h⟩
        rcases List.mem_cons.1 hy with rfl | hy
        · exact hx
        · exact cmpT_lt hx (h.1 y hy)
theorem Sorted.nodup : ∀ {l : List T}, Sorted l → l.Nodup
  | [], _ => List.nodup_nil
  | x :: xs, h => by
    rw [List.nodup_cons]
    refine ⟨fun hx => ?_, Sorted.nodup h.2⟩
    have := h.1 x hx
    rw [cmpT_self] at this
    omega

end Go.Proofs.YtgdibnmabnimaaaGreat

/- spec.l1Compare. -/
namespace Go.Proofs.YtgdibnmabnimaaaGreat
open Go Go.RowKit
theorem lexC_ne {a b : Int} (h : a ≠ 0) : lexC a b = a := if_pos h
theorem lexC_zl (b : Int) : lexC 0 b = b := if_neg (by decide)
theorem lexC_zr (a : Int) : lexC a 0 = a := by
  unfold lexC
  split <;> omega
theorem lessI_self (a : Int) : lessI a a = 0 := by have := lessI_cases a a; omega
theorem lessI_ne {a b : Int} (h : a ≠ b) : lessI a b ≠ 0 := by have := lessI_cases a b; omega
theorem beforeS_self (a : ByteArray) : beforeS a a = 0 := by
  have := beforeS_swap a a
  omega
theorem beforeS_ne {a b : ByteArray} (h : a ≠ b) : beforeS a b ≠ 0 := by
  rcases beforeS_cases a b with h1 | h1 | h1
  · omega
  · omega
  · exact absurd h1.1 h
theorem cmpT_def (t u : T) : cmpT t u = lexC (hdC t u) (cmpL t.kids u.kids) := by cases t; rw [cmpT]; rfl
theorem cmp_rk {t u : T} (h : rkS t ≠ rkS u) : cmpT t u = lessI (rkS t) (rkS u) := by
  rw [cmpT_def, hdC, lexC_ne (lessI_ne h), lexC_ne (lessI_ne h)]
theorem rk_own {t : T} (h : okO t) : (t.kind = 1 ∧ rkS t = 1 ∧ t.name = emptyB ∧ t.kids = []) ∨ (t.kind = 2 ∧ rkS t = 2 ∧ t.name = emptyB ∧ t.kids = []) ∨ (t.kind = 3 ∧ t.n = 0 ∧ (rkS t = 3 ∨ rkS t = 4)) := by
  rcases okO_own h with ⟨hk, hs, hks⟩ | ⟨hk, hn⟩
  · have := rkS_leaf hks
    rcases hk with hk | hk
    · exact .inl ⟨hk, by omega, hs, hks⟩
    · exact .inr (.inl ⟨hk, by omega, hs, hks⟩)
  · refine .inr (.inr ⟨hk, hn, ?_⟩)
    rw [rkS]
    split
    · exact .inr rfl
    · exact .inl hk
theorem cmp_n {t u : T} (ht : okO t) (hu : okO u) (h : rkS t = rkS u) (hk : t.kind ≠ 3) : cmpT t u = lessI t.n u.n := by
  have h1 := rk_own ht
  have h2 := rk_own hu
  have h3 : t.name = emptyB ∧ t.kids = [] ∧ u.name = emptyB ∧ u.kids = [] := by
    rcases h1 with h1 | h1 | h1
    · rcases h2 with h2 | h2 | h2
      · exact ⟨h1.2.2.1, h1.2.2.2, h2.2.2.1, h2.2.2.2⟩
      · omega
      · omega
    · rcases h2 with h2 | h2 | h2
      · omega
      · exact ⟨h1.2.2.1, h1.2.2.2, h2.2.2.1, h2.2.2.2⟩
      · omega
    · exact absurd h1.1 hk
  rw [cmpT_def, hdC, h, lessI_self, lexC_zl, h3.1, h3.2.1, h3.2.2.1, h3.2.2.2, lessI_self, beforeS_self, lexC_zl, lexC_zr, cmpL, lexC_zr]
theorem cmp_s {t u : T} (ht : okO t) (hu : okO u) (h : rkS t = rkS u) (hk : t.kind = 3) : cmpT t u = lexC (lexC (lessI t.kids.length u.kids.length) (beforeS t.name u.name)) (cmpL t.kids u.kids) := by
  have h1 := rk_own ht
  have h2 := rk_own hu
  have h3 : t.n = u.n := by
    rcases h1 with h1 | h1 | h1
    · omega
    · omega
    · rcases h2 with h2 | h2 | h2 <;> omega
  rw [cmpT_def, hdC, h, lessI_self, lexC_zl, h3, lessI_self, lexC_zl]
theorem cmp_len {t u : T} (ht : okO t) (hu : okO u) (h : rkS t = rkS u) (hk : t.kind = 3) (hl : (t.kids.length : Int) ≠ u.kids.length) : cmpT t u = lessI t.kids.length u.kids.length := by
  rw [cmp_s ht hu h hk, lexC_ne (lessI_ne hl), lexC_ne (lessI_ne hl)]
theorem cmp_name {t u : T} (ht : okO t) (hu : okO u) (h : rkS t = rkS u) (hk : t.kind = 3) (hl : (t.kids.length : Int) = u.kids.length) (hn : t.name ≠ u.name) : cmpT t u = beforeS t.name u.name := by
  rw [cmp_s ht hu h hk, hl, lessI_self, lexC_zl, lexC_ne (beforeS_ne hn)]
theorem cmp_kids {t u : T} (ht : okO t) (hu : okO u) (h : rkS t = rkS u) (hk : t.kind = 3) (hl : (t.kids.length : Int) = u.kids.length) (hn : t.name = u.name) : cmpT t u = cmpL t.kids u.kids := by
  rw [cmp_s ht hu h hk, hl, lessI_self, lexC_zl, hn, beforeS_self, lexC_zl]
theorem cmpL_drop (ts us : List T) (j : Nat) (h : j < ts.length) (h' : j < us.length) : cmpL (ts.drop j) (us.drop j) = lexC (cmpT ts[j] us[j]) (cmpL (ts.drop (j + 1)) (us.drop (j + 1))) := by
  rw [List.drop_eq_getElem_cons h, List.drop_eq_getElem_cons h', cmpL]
theorem okOL_mem : ∀ {ts : List T}, okOL ts → ∀ t ∈ ts, okO t
  | _ :: _, h, t, ht => by
    rcases List.mem_cons.1 ht with rfl | ht
    · exact h.1
    · exact okOL_mem h.2 t ht
section
variable {P : Program} {w : World} {K : Value → World → Prop}
attribute [local irreducible] Run
theorem r_slss {T : TypeId} {cx cy : Bool} {a b : ByteArray} (hk : K (.bool (bls a b)) w) : Run P (sBin .lss T cx cy (.string a) (.string b)) w K := by
  refine Run.of ?_ hk
  simp only [sBin, binOp, Op.stringOp, Sem.run_bind, eqGuard_str, Result.andThen_ok, Sem.run_pure, bls]
theorem r_sgtr {T : TypeId} {cx cy : Bool} {a b : ByteArray} (hk : K (.bool (!(bls a b || decide (a = b)))) w) : Run P (sBin .gtr T cx cy (.string a) (.string b)) w K := by
  refine Run.of ?_ hk
  rw [← bytes_eq]
  simp only [sBin, binOp, Op.stringOp, Sem.run_bind, eqGuard_str, Result.andThen_ok, Sem.run_pure, bls]
end
section
attribute [local irreducible] Run CondV GuardV LoadV
theorem l1Less_calls (a b : Int) (S : Store) : Pure Tryz.prog n_s_l1Less [.int .i64 a, .int .i64 b] S (.int .i64 (lessI a b)) := by
  intro w hI
  refine calls_s_l1Less ?_
  unfold sh_s_l1Less
  refine r_lss ?_
  refine condP (fun h => done hI (by rw [lessI, if_pos h])) (fun h => ?_)
  refine r_gtr ?_
  exact condP (fun h' => done hI (by rw [lessI, if_neg h, if_pos h'])) (fun h' => done hI (by rw [lessI, if_neg h, if_neg h']))
theorem l1Before_calls (a b : ByteArray) (S : Store) : Pure Tryz.prog n_s_l1Before [.string a, .string b] S (.int .i64 (beforeS a b)) := by
  intro w hI
  refine calls_s_l1Before ?_
  unfold sh_s_l1Before
  refine r_slss ?_
  refine condV (fun h => done hI (by rw [beforeS, if_pos h])) (fun h => ?_)
  refine r_sgtr ?_
  rw [h, Bool.false_or]
  refine condV (fun h' => done hI ?_) (fun h' => done hI ?_)
  · rw [Bool.not_eq_true', decide_eq_false_iff_not] at h'
    rcases beforeS_cases a b with h1 | h1 | h1
    · rw [h1.1] at h; cases h
    · rw [h1.2.2]
    · exact absurd h1.1 h'
  · rw [Bool.not_eq_false', decide_eq_true_eq] at h'
    rw [h', beforeS_self]
theorem l1Rank_calls {t : T} {S : Store} {cs : List Value} (h : RdT S cs t) : Pure Tryz.prog n_s_l1Rank [.agg cs.toArray] S (.int .i64 (rkS t)) := by
  intro w hI
  obtain ⟨kv, rfl, _, _, _, hks⟩ := RdT.iff.1 h
  refine calls_s_l1Rank ?_
  unfold sh_s_l1Rank
  refine r_box hI fun b1 w' hI => ?_
  refine ⟨fun v w' => v = .bool (decide (t.kind = 3) && decide (0 < t.kids.length)) ∧ Inv w [] [.blk b1 (.cells #[.int .i64 t.kind, .int .i64 t.n, .string t.name, kv] t_iTerm)] S w', ?_, ?_⟩
  · refine r_fieldL hI 0 rfl fo_iTerm_0 sc_int rfl ?_
    refine r_eql ?_
    by_cases h3 : t.kind = 3
    · rw [decide_eq_true h3]
      repeat (first | refine guard_true ?_ | refine guard_ne (by decide) ?_ | refine guard_undef ?_ | refine r_pickT ?_ | refine r_pickF ?_)
      refine r_fieldL hI 0 rfl fo_iTerm_3 sc_SiTerm rfl ?_
      refine r_lenSl hks sl_SiTerm ?_
      refine r_gtr ?_
      repeat (first | refine guard_true ?_ | refine guard_ne (by decide) ?_ | refine guard_undef ?_ | refine r_pickT ?_ | refine r_pickF ?_)
      refine ⟨?_, hI⟩
      rw [Bool.true_and]
      congr 1
      rw [Bool.eq_iff_iff]
      simp only [decide_eq_true_eq]
      omega
    · rw [decide_eq_false h3]
      repeat (first | refine guard_true ?_ | refine guard_ne (by decide) ?_ | refine guard_undef ?_ | refine r_pickT ?_ | refine r_pickF ?_)
      exact ⟨rfl, hI⟩
  intro v _ _ _ _ _ _ _ _ w'
  rintro ⟨rfl, hI⟩
  refine condV (fun hb => done hI ?_) (fun hb => ?_)
  · simp only [Bool.and_eq_true, decide_eq_true_eq] at hb
    rw [rkS, if_pos hb]
  · refine r_fieldL hI 0 rfl fo_iTerm_0 sc_int rfl ?_
    refine done hI ?_
    have : ¬ (t.kind = 3 ∧ 0 < t.kids.length) := by
      intro h
      rw [decide_eq_true h.1, decide_eq_true h.2] at hb
      cases hb
    rw [rkS, if_neg this]; rfl
theorem l1Compare_calls : ∀ (t u : T) (S : Store) (cs ds : List Value), RdT S cs t → RdT S ds u → okO t → okO u → Pure Tryz.prog n_s_l1Compare [.agg cs.toArray, .agg ds.toArray] S (.int .i64 (cmpT t u)) := by
  refine T.ind fun k n s ks ih u S cs ds h h' ht hu => ?_
  intro w hI
  have hcs := h
  have hds := h'
  obtain ⟨kv, rfl, _, _, _, hks⟩ := RdT.iff.1 h
  obtain ⟨kv', rfl, _, _, _, hks'⟩ := RdT.iff.1 h'
  obtain ⟨k', n', s', ks'⟩ := u
  simp only [T.name, T.kids, T.kind, T.n] at hks hks' ⊢
  have hlen := hks.le
  simp only [maxLen] at hlen
  refine calls_s_l1Compare ?_
  unfold sh_s_l1Compare
  refine r_box hI fun b1 w' hI => ?_
  refine r_box hI fun b2 w' hI => ?_
  have hI : Inv w [] [.blk b1 (.cells #[.int .i64 k, .int .i64 n, .string s, kv] t_iTerm), .blk b2 (.cells #[.int .i64 k', .int .i64 n', .string s', kv'] t_iTerm)] S w' := hI
  refine ⟨fun D x11 x10 x9 x8 x7 w_ => (D 0 = true → x7 = .agg #[.int .i64 k, .int .i64 n, .string s, kv]) ∧ (D 1 = true → x8 = .int .i64 (rkS (.mk k n s ks))) ∧ (D 2 = true → x9 = .agg #[.int .i64 k', .int .i64 n', .string s', kv']) ∧ (D 3 = true → x10 = .int .i64 (rkS (.mk k' n' s' ks'))) ∧ (D 4 = true → x11 = .bool (!decide (rkS (.mk k n s ks) = rkS (.mk k' n' s' ks')))) ∧ Inv w [] [.blk b1 (.cells #[.int .i64 k, .int .i64 n, .string s, kv] t_iTerm), .blk b2 (.cells #[.int .i64 k', .int .i64 n', .string s', kv'] t_iTerm)] S w_, ⟨fun h => Bool.noConfusion h, fun h => Bool.noConfusion h, fun h => Bool.noConfusion h, fun h => Bool.noConfusion h, fun h => Bool.noConfusion h, hI.draw⟩, ⟨?_, ?_, ?_, ?_, ?_, trivial⟩, ?_⟩
  · intro D hD_  x11 x10 x9 x8 x7 w_
    rintro ⟨h0_, h1_, h2_, h3_, h4_, hI⟩
    refine r_loadW hI 0 ag_iTerm rfl rfl ?_
    exact ⟨fun _ => rfl, h1_, h2_, h3_, h4_, hI⟩
  · intro D hD_ d0_0 x11 x10 x9 x8 x7 w_
    rintro ⟨h0_, h1_, h2_, h3_, h4_, hI⟩
    obtain rfl := h0_ d0_0
    refine Run.callPure fn_s_l1Rank nm_s_l1Rank hI (l1Rank_calls hcs) fun w_ hI => ?_
    exact ⟨h0_, fun _ => rfl, h2_, h3_, h4_, hI⟩
  · intro D hD_  x11 x10 x9 x8 x7 w_
    rintro ⟨h0_, h1_, h2_, h3_, h4_, hI⟩
    refine r_loadW hI 1 ag_iTerm rfl rfl ?_
    exact ⟨h0_, h1_, fun _ => rfl, h3_, h4_, hI⟩
  · intro D hD_ d2_0 d1_1 x11 x10 x9 x8 x7 w_
    rintro ⟨h0_, h1_, h2_, h3_, h4_, hI⟩
    obtain rfl := h2_ d2_0
    refine Run.callPure fn_s_l1Rank nm_s_l1Rank hI (l1Rank_calls hds) fun w_ hI => ?_
    exact ⟨h0_, h1_, h2_, fun _ => rfl, h4_, hI⟩
  · intro D hD_ d1_0 d3_1 x11 x10 x9 x8 x7 w_
    rintro ⟨h0_, h1_, h2_, h3_, h4_, hI⟩
    obtain rfl := h1_ d1_0
    obtain rfl := h3_ d3_1
    refine r_neq ?_
    exact ⟨h0_, h1_, h2_, h3_, fun _ => rfl, hI⟩
  intro D d4_ d3_ d2_ d1_ d0_ x11 x10 x9 x8 x7 w_
  rintro ⟨h0_, h1_, h2_, h3_, h4_, hI⟩
  obtain rfl := h4_ d4_
  obtain rfl := h3_ d3_
  obtain rfl := h2_ d2_
  obtain rfl := h1_ d1_
  obtain rfl := h0_ d0_
  clear h0_ h1_ h2_ h3_ h4_
  refine condV (fun hb => ?_) (fun hb => ?_)
  · simp only [Bool.not_eq_true', decide_eq_false_iff_not] at hb
    rw [cmp_rk hb]
    refine ⟨fun D x4 x16 x15 x14 x13 x12 w_ => (D 0 = true → x12 = .agg #[.int .i64 k, .int .i64 n, .string s, kv]) ∧ (D 1 = true → x13 = .int .i64 (rkS (.mk k n s ks))) ∧ (D 2 = true → x14 = .agg #[.int .i64 k', .int .i64 n', .string s', kv']) ∧ (D 3 = true → x15 = .int .i64 (rkS (.mk k' n' s' ks'))) ∧ (D 4 = true → x16 = .int .i64 (lessI (rkS (.mk k n s ks)) (rkS (.mk k' n' s' ks')))) ∧ (D 5 = true → x4 = .int .i64 (lessI (rkS (.mk k n s ks)) (rkS (.mk k' n' s' ks')))) ∧ Inv w [] [.blk b1 (.cells #[.int .i64 k, .int .i64 n, .string s, kv] t_iTerm), .blk b2 (.cells #[.int .i64 k', .int .i64 n', .string s', kv'] t_iTerm)] S w_, ⟨fun h => Bool.noConfusion h, fun h => Bool.noConfusion h, fun h => Bool.noConfusion h, fun h => Bool.noConfusion h, fun h => Bool.noConfusion h, fun h => Bool.noConfusion h, hI.draw⟩, ⟨?_, ?_, ?_, ?_, ?_, ?_, trivial⟩, ?_⟩
    · intro D hD_  x4 x16 x15 x14 x13 x12 w_
      rintro ⟨h0_, h1_, h2_, h3_, h4_, h5_, hI⟩
      refine r_loadW hI 0 ag_iTerm rfl rfl ?_
      exact ⟨fun _ => rfl, h1_, h2_, h3_, h4_, h5_, hI⟩
    · intro D hD_ d0_0 x4 x16 x15 x14 x13 x12 w_
      rintro ⟨h0_, h1_, h2_, h3_, h4_, h5_, hI⟩
      obtain rfl := h0_ d0_0
      refine Run.callPure fn_s_l1Rank nm_s_l1Rank hI (l1Rank_calls hcs) fun w_ hI => ?_
      exact ⟨h0_, fun _ => rfl, h2_, h3_, h4_, h5_, hI⟩
    · intro D hD_  x4 x16 x15 x14 x13 x12 w_
      rintro ⟨h0_, h1_, h2_, h3_, h4_, h5_, hI⟩
      refine r_loadW hI 1 ag_iTerm rfl rfl ?_
      exact ⟨h0_, h1_, fun _ => rfl, h3_, h4_, h5_, hI⟩
    · intro D hD_ d2_0 d1_1 x4 x16 x15 x14 x13 x12 w_
      rintro ⟨h0_, h1_, h2_, h3_, h4_, h5_, hI⟩
      obtain rfl := h2_ d2_0
      refine Run.callPure fn_s_l1Rank nm_s_l1Rank hI (l1Rank_calls hds) fun w_ hI => ?_
      exact ⟨h0_, h1_, h2_, fun _ => rfl, h4_, h5_, hI⟩
    · intro D hD_ d1_0 d3_1 d3_2 x4 x16 x15 x14 x13 x12 w_
      rintro ⟨h0_, h1_, h2_, h3_, h4_, h5_, hI⟩
      obtain rfl := h1_ d1_0
      obtain rfl := h3_ d3_1
      refine Run.callPure fn_s_l1Less nm_s_l1Less hI (l1Less_calls _ _ S) fun w_ hI => ?_
      exact ⟨h0_, h1_, h2_, h3_, fun _ => rfl, h5_, hI⟩
    · intro D hD_ d4_0 d4_1 d0_2 d1_3 d2_4 d3_5 d4_6 x4 x16 x15 x14 x13 x12 w_
      rintro ⟨h0_, h1_, h2_, h3_, h4_, h5_, hI⟩
      obtain rfl := h4_ d4_0
      exact ⟨h0_, h1_, h2_, h3_, h4_, fun _ => rfl, hI⟩
    intro D d5_ d4_ d3_ d2_ d1_ d0_ x4 x16 x15 x14 x13 x12 w_
    rintro ⟨h0_, h1_, h2_, h3_, h4_, h5_, hI⟩
    obtain rfl := h5_ d5_
    obtain rfl := h4_ d4_
    obtain rfl := h3_ d3_
    obtain rfl := h2_ d2_
    obtain rfl := h1_ d1_
    obtain rfl := h0_ d0_
    clear h0_ h1_ h2_ h3_ h4_ h5_
    exact done hI rfl
  have hrk : rkS (.mk k n s ks) = rkS (.mk k' n' s' ks') := by simpa using hb
  refine r_fieldL hI 0 rfl fo_iTerm_0 sc_int rfl ?_
  refine r_neq ?_
  refine condV (fun hb => ?_) (fun hb => ?_)
  · have hk : k ≠ 3 := by simpa using hb
    rw [cmp_n ht hu hrk hk]
    refine r_fieldL hI 0 rfl fo_iTerm_1 sc_int rfl ?_
    refine r_fieldL hI 1 rfl fo_iTerm_1 sc_int rfl ?_
    refine Run.callPure fn_s_l1Less nm_s_l1Less hI (l1Less_calls _ _ S) fun w' hI => ?_
    exact done hI rfl
  have hk : k = 3 := by simpa using hb
  refine r_fieldL hI 0 rfl fo_iTerm_3 sc_SiTerm rfl ?_
  refine r_lenSl hks sl_SiTerm ?_
  refine r_fieldL hI 1 rfl fo_iTerm_3 sc_SiTerm rfl ?_
  refine r_lenSl hks' sl_SiTerm ?_
  refine r_neq ?_
  refine condV (fun hb => ?_) (fun hb => ?_)
  · have hl : (ks.length : Int) ≠ ks'.length := by simpa using hb
    rw [cmp_len ht hu hrk hk hl]
    refine r_fieldL hI 0 rfl fo_iTerm_3 sc_SiTerm rfl ?_
    refine r_lenSl hks sl_SiTerm ?_
    refine r_fieldL hI 1 rfl fo_iTerm_3 sc_SiTerm rfl ?_
    refine r_lenSl hks' sl_SiTerm ?_
    refine Run.callPure fn_s_l1Less nm_s_l1Less hI (l1Less_calls _ _ S) fun w' hI => ?_
    exact done hI rfl
  have hl : (ks.length : Int) = ks'.length := by simpa using hb
  refine r_fieldL hI 0 rfl fo_iTerm_2 sc_string rfl ?_
  refine r_fieldL hI 1 rfl fo_iTerm_2 sc_string rfl ?_
  refine r_sneq ?_
  refine condV (fun hb => ?_) (fun hb => ?_)
  · have hn : s ≠ s' := by simpa using hb
    rw [cmp_name ht hu hrk hk hl hn]
    refine r_fieldL hI 0 rfl fo_iTerm_2 sc_string rfl ?_
    refine r_fieldL hI 1 rfl fo_iTerm_2 sc_string rfl ?_
    refine Run.callPure fn_s_l1Before nm_s_l1Before hI (l1Before_calls _ _ S) fun w' hI => ?_
    exact done hI rfl
  have hn : s = s' := by simpa using hb
  have hck : cmpT (.mk k n s ks) (.mk k' n' s' ks') = cmpL ks ks' := cmp_kids ht hu hrk hk hl hn
  rw [hck]
  rw [okO] at ht hu
  have htk := ht.2
  have huk := hu.2
  refine ⟨fun i w' => ∃ j : Nat, j ≤ ks.length ∧ i = .int .i64 j ∧ cmpL (ks.drop j) (ks'.drop j) = cmpL ks ks' ∧ Inv w [] [.blk b1 (.cells #[.int .i64 k, .int .i64 n, .string s, kv] t_iTerm), .blk b2 (.cells #[.int .i64 k', .int .i64 n', .string s', kv'] t_iTerm)] S w',
    fun i _ => ks.length - (intOf i).toNat, ⟨0, Nat.zero_le _, rfl, rfl, hI⟩, ?_⟩
  intro t5 _ _ _ _ _ _ _ _ _ _ _ _ _ _ _ _ _ _ _ _ _ _ _ w'
  rintro ⟨j, hj, rfl, hrel, hI⟩
  refine r_fieldL hI 0 rfl fo_iTerm_3 sc_SiTerm rfl ?_
  refine r_lenSl hks sl_SiTerm ?_
  refine r_lss ?_
  refine condP (fun hji => ?_) (fun hji => ?_)
  · have hj1 : j < ks.length := by omega
    have hj2 : j < ks'.length := by omega
    rw [cmpL_drop ks ks' j hj1 hj2] at hrel
    obtain ⟨c1, o1, cap1, cc1, E1, fz1, rfl, hS1, hR1⟩ := hks.at_ hj1
    obtain ⟨c2, o2, cap2, cc2, E2, fz2, rfl, hS2, hR2⟩ := hks'.at_ hj2
    have hcall := ih _ (List.getElem_mem hj1) ks'[j] S _ _ hR1 hR2 (okOL_mem htk _ (List.getElem_mem hj1)) (okOL_mem huk _ (List.getElem_mem hj2))
    refine ⟨fun D x6 x66 x65 x64 x63 x62 x61 x60 x59 x58 x57 x56 w_ => (D 0 = true → x56 = .pointer (some ⟨b1, 3, none⟩)) ∧ (D 1 = true → x57 = .slice (some ⟨c1, o1, none⟩) ks.length cap1) ∧ (D 2 = true → x58 = .int .i64 j) ∧ (D 3 = true → x59 = .pointer (some ⟨c1, o1 + j * 4, none⟩)) ∧ (D 4 = true → x60 = .agg (cellsAt cc1 (o1 + j * 4) 4).toArray) ∧ (D 5 = true → x61 = .pointer (some ⟨b2, 3, none⟩)) ∧ (D 6 = true → x62 = .slice (some ⟨c2, o2, none⟩) ks'.length cap2) ∧ (D 7 = true → x63 = .int .i64 j) ∧ (D 8 = true → x64 = .pointer (some ⟨c2, o2 + j * 4, none⟩)) ∧ (D 9 = true → x65 = .agg (cellsAt cc2 (o2 + j * 4) 4).toArray) ∧ (D 10 = true → x66 = .int .i64 (cmpT ks[j] ks'[j])) ∧ (D 11 = true → x6 = .int .i64 (cmpT ks[j] ks'[j])) ∧ Inv w [] [.blk b1 (.cells #[.int .i64 k, .int .i64 n, .string s, .slice (some ⟨c1, o1, none⟩) ks.length cap1] t_iTerm), .blk b2 (.cells #[.int .i64 k', .int .i64 n', .string s', .slice (some ⟨c2, o2, none⟩) ks'.length cap2] t_iTerm)] S w_, ⟨fun h => Bool.noConfusion h, fun h => Bool.noConfusion h, fun h => Bool.noConfusion h, fun h => Bool.noConfusion h, fun h => Bool.noConfusion h, fun h => Bool.noConfusion h, fun h => Bool.noConfusion h, fun h => Bool.noConfusion h, fun h => Bool.noConfusion h, fun h => Bool.noConfusion h, fun h => Bool.noConfusion h, fun h => Bool.noConfusion h, hI.draw⟩, ⟨?_, ?_, ?_, ?_, ?_, ?_, ?_, ?_, ?_, ?_, ?_, ?_, trivial⟩, ?_⟩
    · intro D hD_  x6 x66 x65 x64 x63 x62 x61 x60 x59 x58 x57 x56 w_
      rintro ⟨h0_, h1_, h2_, h3_, h4_, h5_, h6_, h7_, h8_, h9_, h10_, h11_, hI⟩
      refine r_field fo_iTerm_3 ?_
      exact ⟨fun _ => rfl, h1_, h2_, h3_, h4_, h5_, h6_, h7_, h8_, h9_, h10_, h11_, hI⟩
    · intro D hD_ d0_0 x6 x66 x65 x64 x63 x62 x61 x60 x59 x58 x57 x56 w_
      rintro ⟨h0_, h1_, h2_, h3_, h4_, h5_, h6_, h7_, h8_, h9_, h10_, h11_, hI⟩
      obtain rfl := h0_ d0_0
      refine r_loadL hI 0 sc_SiTerm rfl rfl ?_
      exact ⟨h0_, fun _ => rfl, h2_, h3_, h4_, h5_, h6_, h7_, h8_, h9_, h10_, h11_, hI⟩
    · intro D hD_  x6 x66 x65 x64 x63 x62 x61 x60 x59 x58 x57 x56 w_
      rintro ⟨h0_, h1_, h2_, h3_, h4_, h5_, h6_, h7_, h8_, h9_, h10_, h11_, hI⟩
      exact ⟨h0_, h1_, fun _ => rfl, h3_, h4_, h5_, h6_, h7_, h8_, h9_, h10_, h11_, hI⟩
    · intro D hD_ d1_0 d2_1 x6 x66 x65 x64 x63 x62 x61 x60 x59 x58 x57 x56 w_
      rintro ⟨h0_, h1_, h2_, h3_, h4_, h5_, h6_, h7_, h8_, h9_, h10_, h11_, hI⟩
      obtain rfl := h1_ d1_0
      obtain rfl := h2_ d2_1
      refine r_indexAddr sl_SiTerm hj1 ?_
      exact ⟨h0_, h1_, h2_, fun _ => rfl, h4_, h5_, h6_, h7_, h8_, h9_, h10_, h11_, hI⟩
    · intro D hD_ d3_0 x6 x66 x65 x64 x63 x62 x61 x60 x59 x58 x57 x56 w_
      rintro ⟨h0_, h1_, h2_, h3_, h4_, h5_, h6_, h7_, h8_, h9_, h10_, h11_, hI⟩
      obtain rfl := h3_ d3_0
      refine r_loadA ag_iTerm hR1.length (fun j v hj => by rw [hI.cellS hS1]; exact cellsAt_get rfl j v hj) ?_
      exact ⟨h0_, h1_, h2_, h3_, fun _ => rfl, h5_, h6_, h7_, h8_, h9_, h10_, h11_, hI⟩
    · intro D hD_  x6 x66 x65 x64 x63 x62 x61 x60 x59 x58 x57 x56 w_
      rintro ⟨h0_, h1_, h2_, h3_, h4_, h5_, h6_, h7_, h8_, h9_, h10_, h11_, hI⟩
      refine r_field fo_iTerm_3 ?_
      exact ⟨h0_, h1_, h2_, h3_, h4_, fun _ => rfl, h6_, h7_, h8_, h9_, h10_, h11_, hI⟩
    · intro D hD_ d5_0 x6 x66 x65 x64 x63 x62 x61 x60 x59 x58 x57 x56 w_
      rintro ⟨h0_, h1_, h2_, h3_, h4_, h5_, h6_, h7_, h8_, h9_, h10_, h11_, hI⟩
      obtain rfl := h5_ d5_0
      refine r_loadL hI 1 sc_SiTerm rfl rfl ?_
      exact ⟨h0_, h1_, h2_, h3_, h4_, h5_, fun _ => rfl, h7_, h8_, h9_, h10_, h11_, hI⟩
    · intro D hD_  x6 x66 x65 x64 x63 x62 x61 x60 x59 x58 x57 x56 w_
      rintro ⟨h0_, h1_, h2_, h3_, h4_, h5_, h6_, h7_, h8_, h9_, h10_, h11_, hI⟩
      exact ⟨h0_, h1_, h2_, h3_, h4_, h5_, h6_, fun _ => rfl, h8_, h9_, h10_, h11_, hI⟩
    · intro D hD_ d6_0 d7_1 x6 x66 x65 x64 x63 x62 x61 x60 x59 x58 x57 x56 w_
      rintro ⟨h0_, h1_, h2_, h3_, h4_, h5_, h6_, h7_, h8_, h9_, h10_, h11_, hI⟩
      obtain rfl := h6_ d6_0
      obtain rfl := h7_ d7_1
      refine r_indexAddr sl_SiTerm hj2 ?_
      exact ⟨h0_, h1_, h2_, h3_, h4_, h5_, h6_, h7_, fun _ => rfl, h9_, h10_, h11_, hI⟩
    · intro D hD_ d8_0 x6 x66 x65 x64 x63 x62 x61 x60 x59 x58 x57 x56 w_
      rintro ⟨h0_, h1_, h2_, h3_, h4_, h5_, h6_, h7_, h8_, h9_, h10_, h11_, hI⟩
      obtain rfl := h8_ d8_0
      refine r_loadA ag_iTerm hR2.length (fun j v hj => by rw [hI.cellS hS2]; exact cellsAt_get rfl j v hj) ?_
      exact ⟨h0_, h1_, h2_, h3_, h4_, h5_, h6_, h7_, h8_, fun _ => rfl, h10_, h11_, hI⟩
    · intro D hD_ d4_0 d9_1 x6 x66 x65 x64 x63 x62 x61 x60 x59 x58 x57 x56 w_
      rintro ⟨h0_, h1_, h2_, h3_, h4_, h5_, h6_, h7_, h8_, h9_, h10_, h11_, hI⟩
      obtain rfl := h4_ d4_0
      obtain rfl := h9_ d9_1
      refine Run.callPure fn_s_l1Compare nm_s_l1Compare hI hcall fun w_ hI => ?_
      exact ⟨h0_, h1_, h2_, h3_, h4_, h5_, h6_, h7_, h8_, h9_, fun _ => rfl, h11_, hI⟩
    · intro D hD_ d10_0 d10_1 d0_2 d1_3 d2_4 d3_5 d4_6 d5_7 d6_8 d7_9 d8_10 d9_11 d10_12 x6 x66 x65 x64 x63 x62 x61 x60 x59 x58 x57 x56 w_
      rintro ⟨h0_, h1_, h2_, h3_, h4_, h5_, h6_, h7_, h8_, h9_, h10_, h11_, hI⟩
      obtain rfl := h10_ d10_0
      exact ⟨h0_, h1_, h2_, h3_, h4_, h5_, h6_, h7_, h8_, h9_, h10_, fun _ => rfl, hI⟩
    intro D d11_ d10_ d9_ d8_ d7_ d6_ d5_ d4_ d3_ d2_ d1_ d0_ x6 x66 x65 x64 x63 x62 x61 x60 x59 x58 x57 x56 w_
    rintro ⟨h0_, h1_, h2_, h3_, h4_, h5_, h6_, h7_, h8_, h9_, h10_, h11_, hI⟩
    obtain rfl := h11_ d11_
    obtain rfl := h10_ d10_
    obtain rfl := h9_ d9_
    obtain rfl := h8_ d8_
    obtain rfl := h7_ d7_
    obtain rfl := h6_ d6_
    obtain rfl := h5_ d5_
    obtain rfl := h4_ d4_
    obtain rfl := h3_ d3_
    obtain rfl := h2_ d2_
    obtain rfl := h1_ d1_
    obtain rfl := h0_ d0_
    clear h0_ h1_ h2_ h3_ h4_ h5_ h6_ h7_ h8_ h9_ h10_ h11_
    refine r_neq ?_
    refine condV (fun hb => done hI ?_) (fun hb => ?_)
    · have hne : cmpT ks[j] ks'[j] ≠ 0 := by simpa using hb
      rw [← hrel, lexC_ne hne]
    · have he : cmpT ks[j] ks'[j] = 0 := by simpa using hb
      rw [he, lexC_zl] at hrel
      refine r_add (by omega) ?_
      exact ⟨⟨j + 1, hj1, rfl, hrel, hI⟩, by simp [intOf]; omega⟩
  · have e1 : ks.drop j = [] := List.drop_eq_nil_of_le (by omega)
    have e2 : ks'.drop j = [] := List.drop_eq_nil_of_le (by omega)
    refine done hI ?_
    rw [← hrel, e1, e2, cmpL]
end

end Go.Proofs.YtgdibnmabnimaaaGreat

/- Publishing what a call owns; what is published since. -/
namespace Go.Proofs.YtgdibnmabnimaaaGreat
open Go Go.RowKit
/- a tree of one's own, published -/
theorem Inv.pubExt {w0 w : World} {X : List Nat} {A : List Item} {S : Store} {L : Heaplet} (h : Inv w0 X (A ++ blks L) S w) :
    ∃ S', Inv w0 X A S' w ∧ Ext w0.heap.size X S S' ∧ Ins S' L := by
  obtain ⟨S', h1, h2, h3, h4⟩ := h.publishAll L
  refine ⟨S', h1, ⟨h2, fun b o hb => ?_⟩, h3⟩
  rcases h4 b o hb with h5 | h5
  · exact .inl h5
  · right
    exact h.new b (by rw [feet_append]; exact List.mem_append_right _ h5)
theorem Inv.pub1 {w0 w : World} {X : List Nat} {A : List Item} {S : Store} {b : Nat} {o : Obj} (h : Inv w0 X (A ++ [.blk b o]) S w) :
    ∃ S', Inv w0 X A S' w ∧ Ext w0.heap.size X S S' ∧ S' b = some o := by
  obtain ⟨S', h1, h2, h3⟩ := Inv.pubExt (A := A) (L := [(b, o)]) h
  exact ⟨S', h1, h2, h3 _ (List.mem_singleton.2 rfl)⟩
theorem Rows.monoR {α : Type} {k : Nat} {R R' : List Value → α → Prop} {css : List (List Value)} {ys : List α} (h : Rows k R css ys) (hR : ∀ cs y, R cs y → R' cs y) : Rows k R' css ys := ⟨h.hc, h.hk, fun i h1 h2 => hR _ _ (h.hR i h1 h2)⟩
theorem Rows.one {α : Type} {k : Nat} {R : List Value → α → Prop} {cs : List Value} {y : α} (hR : R cs y) (hl : cs.length = k) : Rows k R [cs] [y] := by
  have := (Rows.nil k R).snoc hR hl
  exact this
section
variable {P : Program} {w w0 : World} {X : List Nat} {L : List Item} {S : Store} {K : Value → World → Prop}
theorem Run.call0E {f : FuncId} {fn : Func} {args : List Value} {Post : Value → List Item → Store → Prop}
    (hf : P.funcs[f]? = some fn) (hn : (fn.name == "runtime.NumGoroutine" || fn.body.isNone) = false) (h : Inv w0 X L S w) (hc : Tri P f args [] S Post)
    (hk : ∀ v I' S' w', Post v I' S' → Ext w0.heap.size X S S' → Inv w0 X (L ++ I') S' w' → K v w') : Run P (sCall (.func (.func f) #[] #[]) args) w K := by
  refine Run.callP hf hn ((hc w h.nil.begin).mono ?_)
  rintro e w' ⟨v, I', S', rfl, hI, hE, hP⟩
  refine hk v I' S' w' hP ⟨hE.1, fun b o hb => ?_⟩ (Inv.step (A := L) (B := []) (by simpa using h) hI hE.2)
  rcases hE.2 b o hb with h1 | h1 | h1
  · exact .inl h1
  · simp [feet] at h1
  · exact .inr (.inr (Nat.le_trans h.size h1))
end
theorem Ext.trans {n : Nat} {Y : List Nat} {S S' S'' : Store} (h : Ext n Y S S') (h' : Ext n Y S' S'') : Ext n Y S S'' := by
  refine ⟨h.1.trans h'.1, fun b o hb => ?_⟩
  rcases h'.2 b o hb with h1 | h1
  · exact h.2 b o h1
  · exact .inr h1
section
variable {P : Program} {w w0 : World} {X : List Nat} {A I : List Item} {S : Store} {K : Value → World → Prop}
theorem ext_of {f : FuncId} {args : List Value} {Post : Value → List Item → Store → Prop} (h : Inv w0 X (A ++ I) S w) (hc : Tri P f args I S Post) :
    Calls P f args.toArray w fun e w' => ∃ v I' S', e = .returned v ∧ Inv w0 X (A ++ I') S' w' ∧ Ext w0.heap.size X S S' ∧ Post v I' S' := by
  refine (hc w (h.sub (List.sublist_append_right A I)).begin).mono ?_
  rintro e w' ⟨v, I', S', rfl, hI, hE, hP⟩
  refine ⟨v, I', S', rfl, Inv.step h hI hE.2, ⟨hE.1, fun b o hb => ?_⟩, hP⟩
  rcases hE.2 b o hb with h1 | h1 | h1
  · exact .inl h1
  · exact .inr (h.new b (by rw [feet_append]; exact List.mem_append_right _ h1))
  · exact .inr (.inr (Nat.le_trans h.size h1))
theorem Run.callE {f : FuncId} {fn : Func} {args : List Value} {Post : Value → List Item → Store → Prop}
    (hf : P.funcs[f]? = some fn) (hn : (fn.name == "runtime.NumGoroutine" || fn.body.isNone) = false) (h : Inv w0 X (A ++ I) S w) (hc : Tri P f args I S Post)
    (hk : ∀ v I' S' w', Post v I' S' → Ext w0.heap.size X S S' → Inv w0 X (A ++ I') S' w' → K v w') : Run P (sCall (.func (.func f) #[] #[]) args) w K := by
  refine Run.callP hf hn ((ext_of h hc).mono ?_)
  rintro e w' ⟨v, I', S', rfl, hI, hE, hP⟩
  exact hk v I' S' w' hP hE hI
theorem Run.callVE {f : FuncId} {fn : Func} {cap args : List Value} {Post : Value → List Item → Store → Prop}
    (hf : P.funcs[f]? = some fn) (hn : (fn.name == "runtime.NumGoroutine" || fn.body.isNone) = false) (h : Inv w0 X (A ++ I) S w) (hc : Tri P f (args ++ cap) I S Post)
    (hk : ∀ v I' S' w', Post v I' S' → Ext w0.heap.size X S S' → Inv w0 X (A ++ I') S' w' → K v w') : Run P (sCall (fv f cap) args) w K := by
  unfold Run
  rw [callV_sem hf hn]
  refine (ext_of h hc).mono ?_
  rintro e w' ⟨v, I', S', rfl, hI, hE, hP⟩
  exact hk v I' S' w' hP hE hI
end
theorem Inv.lendExt {w0 w : World} {X : List Nat} {A : List Item} {S : Store} {v : Value} {e : TypeId} {k : Nat} {css : List (List Value)} (h : Inv w0 X (A ++ [rowG v e k css]) S w) :
    ∃ S', Ext w0.heap.size X S S' ∧ RowRd S' v e k css.length css.flatten ∧ Inv w0 X A S' w := by
  obtain ⟨hl, ho⟩ := h.openRow
  rcases ho with ⟨rfl, h0⟩ | ⟨g, cap, cur, rfl, hnc, hcm, hcs, ht, hI⟩
  · exact ⟨S, Ext.refl _ _ _, ⟨hl, .inl ⟨rfl, h0⟩⟩, h.sub (List.sublist_append_left _ _)⟩
  · obtain ⟨S', h1, h2, h3⟩ := Inv.pub1 (A := A) hI
    exact ⟨S', h2, ⟨hl, .inr ⟨g, cap, cur, rfl, h3, hnc, hcm, hcs, ht⟩⟩, h1⟩

end Go.Proofs.YtgdibnmabnimaaaGreat

/- slices.Delete on a tree of the function's own. -/
namespace Go.Proofs.YtgdibnmabnimaaaGreat
open Go Go.RowKit
section
variable {P : Program} {w w0 : World} {X : List Nat} {L : List Item} {S : Store} {K : Value → World → Prop}
attribute [local irreducible] Run CondV GuardV LoadV
/- append within the room of a block -/
theorem r_appendIn (h : Inv w0 X L S w) {T ty e E : TypeId} {k by_ n m g o cap cp : Nat} {z : Value} {cs : List Bool} {cur : Array Value} (i : Nat) (news : List Value) {a : Addr} (ha : a = ⟨g, o, none⟩ ∨ m = 0)
    (hT : mkOf P T = some (e, k, by_, z)) (hi : L[i]? = some (.blk g (.cells cur E))) (hl : news.length = m * k) (hnews : ∀ j u, news[j]? = some u → cur[o + j]? = some u) (h1 : ∀ u ∈ news, u.oneCell' = true)
    (hroom : n + m ≤ cap) (hfit : n * k + news.length ≤ cur.size) (hk : ∀ w', Inv w0 X (L.set i (.blk g (.cells (putCells cur (n * k) news) E))) S w' → K (.slice (some ⟨g, 0, none⟩) (n + m) cap) w') :
    Run P (sBuiltin .append #[T, T] ty cs [.slice (some ⟨g, 0, none⟩) n cap, .slice (some a) m cp]) w K := by
  obtain ⟨hu, inf, hi', hz, hs, hb, hzs⟩ := mkOf_some hT
  have hg := h.its _ (List.mem_of_getElem? hi)
  simp only [Item.holds] at hg
  have hn : ∀ j u, news[j]? = some u → w.cell? (a.add j) = some u := by
    intro j u hj
    rcases ha with rfl | rfl
    · rw [add_lit, h.cellL hi]
      exact hnews j u hj
    · rw [Nat.zero_mul] at hl
      have : news = [] := List.eq_nil_of_length_eq_zero hl
      subst this
      simp at hj
  have hf := run_firstCells_some (P := P) w inf.size m a m cp news (by rw [hs]; exact hl) hn
  have hst := run_storeCells_at P g (n * k) E news 0 cur w hg (by simpa using hfit) h1
  simp only [Nat.add_zero] at hst
  refine Run.of (v := .slice (some ⟨g, 0, none⟩) (n + m) cap) (w' := w.setRow g (putCells cur (n * k) news)) ?_ (hk _ (h.setBlk hi _ (setRow_eq hg)))
  rw [hs] at hf
  simp [sBuiltin, builtin, Builtin.append_, run_underlying hu, sizeOf, typeInfo, hi', Builtin.lenOf, hroom, hf, hs, hst, putCells, add_lit]
theorem r_clear (h : Inv w0 X L S w) {T ty e E : TypeId} {k by_ n g o cp : Nat} {z : Value} {cs : List Bool} {cur : Array Value} (i : Nat)
    (hT : mkOf P T = some (e, k, by_, z)) (hi : L[i]? = some (.blk g (.cells cur E))) (hfit : o + n * k ≤ cur.size) (hn : 0 < n) (h1 : ∀ u ∈ (Builtin.zeroCells z.cells n).toList, u.oneCell' = true)
    (hk : ∀ w', Inv w0 X (L.set i (.blk g (.cells (putCells cur o (Builtin.zeroCells z.cells n).toList) E))) S w' → K (.tuple #[]) w') :
    Run P (sBuiltin .clear #[T] ty cs [.slice (some ⟨g, o, none⟩) n cp]) w K := by
  obtain ⟨hu, inf, hi', hz, hs, hb, hzs⟩ := mkOf_some hT
  have hg := h.its _ (List.mem_of_getElem? hi)
  simp only [Item.holds] at hg
  obtain ⟨n', rfl⟩ : ∃ n', n = n' + 1 := ⟨n - 1, by omega⟩
  have hst := run_storeCells_at P g o E (Builtin.zeroCells z.cells (n' + 1)).toList 0 cur w hg (by rw [Array.length_toList, size_zeroCells, hzs]; simpa using hfit) h1
  simp only [Nat.add_zero] at hst
  refine Run.of (v := .tuple #[]) (w' := w.setRow g (putCells cur o (Builtin.zeroCells z.cells (n' + 1)).toList)) ?_ (hk _ (h.setBlk hi _ (setRow_eq hg)))
  simp [sBuiltin, builtin, Builtin.clear_, run_underlying hu, zeroValue, typeInfo, hi', hz, hst, putCells]
end
theorem cellsAt_put_in {c : Array Value} {p q k : Nat} {news : List Value} (hf : p + news.length ≤ c.size) (hq : q + k ≤ news.length) : cellsAt (putCells c p news) (p + q) k = (news.drop q).take k := by
  apply List.ext_getElem?
  intro i
  simp only [cellsAt, putCells, List.getElem?_take, List.getElem?_drop]
  split
  · rename_i hi
    simp only [List.getElem?_append, List.length_append, List.length_take, Array.length_toList]
    have e1 : min p c.size = p := by omega
    rw [e1, if_pos (by omega), if_neg (by omega)]
    congr 1
    omega
  · rfl
theorem sub_flatten {α : Type} {l m : List (List α)} (h : List.Sublist l m) : List.Sublist l.flatten m.flatten := by
  induction h with
  | slnil => exact List.Sublist.refl _
  | cons a _ ih => rw [List.flatten_cons]; exact ih.trans (List.sublist_append_right _ _)
  | cons_cons a _ ih => rw [List.flatten_cons, List.flatten_cons]; exact List.Sublist.append_left ih _

end Go.Proofs.YtgdibnmabnimaaaGreat

/- slices.Clone and slices.DeleteFunc of terms. -/
namespace Go.Proofs.YtgdibnmabnimaaaGreat
open Go Go.RowKit

theorem indexF_pure {α : Type} (p : α → Bool) : ∀ (xs : List α) (k : Nat), ((indexF (σ := Unit) (fun _ x => (p x, ())) () xs k).1 = -1 ∧ xs.filter (fun x => !p x) = xs) ∨
    ∃ j, ∃ h : j < xs.length, (indexF (σ := Unit) (fun _ x => (p x, ())) () xs k).1 = ((k + j : Nat) : Int) ∧ p xs[j] = true ∧ (xs.take j).filter (fun x => !p x) = xs.take j
  | [], k => .inl ⟨rfl, rfl⟩
  | x :: xs, k => by
    rw [indexF]
    cases hp : p x with
    | true => exact .inr ⟨0, by simp, by simp, by simpa using hp, by simp⟩
    | false =>
      rcases indexF_pure p xs (k + 1) with ⟨h1, h2⟩ | ⟨j, hj, h1, h2, h3⟩
      · refine .inl ⟨by simpa using h1, ?_⟩
        rw [List.filter_cons, hp]
        simp [h2]
      · refine .inr ⟨j + 1, by simpa using hj, ?_, by simpa using h2, ?_⟩
        · simp only [Bool.false_eq_true, if_false]
          rw [h1]
          congr 1
          omega
        · rw [List.take_succ_cons, List.filter_cons, hp]
          simp [h3]
section
variable {P : Program} {w w0 : World} {X : List Nat} {L : List Item} {S : Store} {K : Value → World → Prop}
attribute [local irreducible] Run CondV GuardV LoadV
theorem r_slNil {T e : TypeId} {k n c : Nat} {cx cy : Bool} {a : Option Addr} (hT : sliceOf P T = some (e, k)) (hk : K (.bool a.isNone) w) : Run P (sBin .eql T cx cy (.slice a n c) (.slice none 0 0)) w K := by
  obtain ⟨hu, _⟩ := sliceOf_size hT
  refine Run.of (v := .bool a.isNone) (w' := w) ?_ hk
  have he : (Op.equal T (.slice a n c) (.slice none 0 0)).run P w = .ok a.isNone w := by
    rw [Op.equal, Op.maxDepth, Op.equalIn.eq_def]
    cases a <;> simp [run_underlying hu]
  have hg : ∀ x y, (eqGuard .eql T x y (.slice a n c) (.slice none 0 0)).run P w = .ok () w := fun x y => by unfold eqGuard; simp
  simp only [sBin, binOp, Sem.run_bind, hg, Result.andThen_ok, he, Sem.run_pure]
theorem Run.callVPure {f : FuncId} {fn : Func} {cap args : List Value} {r : Value} (hf : P.funcs[f]? = some fn) (hn : (fn.name == "runtime.NumGoroutine" || fn.body.isNone) = false) (h : Inv w0 X L S w) (hc : Pure P f (args ++ cap) S r)
    (hk : ∀ w', Inv w0 X L S w' → K r w') : Run P (sCall (fv f cap) args) w K := by
  refine Run.callV (A := L) (I := []) hf hn (by simpa using h) (Post := fun v I' S' => v = r ∧ I' = [] ∧ S' = S) ?_ fun v' I' S' w' => ?_
  · intro w1 hI
    exact (hc w1 hI).mono fun e w' ⟨he, hI⟩ => ⟨_, _, _, he, hI, Ext.refl _ _ _, rfl, rfl, rfl⟩
  · rintro ⟨rfl, rfl, rfl⟩ _ hI
    exact hk _ (by simpa using hI)
end
section
attribute [local irreducible] Run CondV GuardV LoadV
theorem Clone_Term_calls {xs : List T} {S : Store} {v : Value} (h : RdSl S 4 (RdT S) v xs) (hl : xs.length ≤ 4000000000) : Tri Tryz.prog n_x_Clone_Term [v] [] S fun r I' S' => S' = S ∧ ∃ css, I' = [rowG r t_iTerm 4 css] ∧ Rows 4 (RdT S) css xs := by
  intro w hI
  obtain ⟨a, cap, rfl, hlc, hcm, hx⟩ := id h
  refine calls_x_Clone_Term ?_
  unfold sh_x_Clone_Term
  refine r_slNil sl_SiTerm ?_
  cases a with
  | none =>
    refine condV (fun _ => ?_) (fun hb => by cases hb)
    rcases hx with rfl | ⟨b, o, c, E, fz, hc, _⟩
    · exact ⟨_, _, _, rfl, hI.rowNil t_iTerm 4, Ext.refl _ _ _, rfl, [], rfl, Rows.nil _ _⟩
    · cases hc
  | some a =>
    refine condV (fun hb => by cases hb) (fun _ => ?_)
    refine r_slice0 hI mk_SiTerm fun v0 w' hI => ?_
    refine r_appendRd (css := []) hI 0 mk_SiTerm (by omega) rfl h (fun _ _ => RdT.length) (fun _ _ => RdT.one) (by simp; omega) (by omega) fun v1 w' css2 hR hI => ?_
    exact ⟨_, _, _, rfl, hI, Ext.refl _ _ _, rfl, css2, rfl, hR⟩
end

end Go.Proofs.YtgdibnmabnimaaaGreat
