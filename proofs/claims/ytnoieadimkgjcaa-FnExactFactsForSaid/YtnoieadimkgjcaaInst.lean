/- Matching with a map: impl.instance. -/
import Derived.Test.YtnoieadimkgjcaaMatch
namespace Go.Proofs.Ytnoieadimkgjcaa
open Go Go.RowKit

/- the map of impl.instance -/
def KnownM (S : Store) (es : Array MapEntry) (st : Known) : Prop :=
  (∀ e ∈ es.toList, ∃ (n : Nat) (t : T) (cs : List Value), e.key = .int .i64 n ∧ e.val = .agg cs.toArray ∧ RdT S cs t ∧ st[n]? = some (some t)) ∧ (∀ (n : Nat) (t : T), st[n]? = some (some t) → ∃ e ∈ es.toList, e.key = .int .i64 n)
theorem KnownM.find {S : Store} {es : Array MapEntry} {st : Known} (h : KnownM S es st) (n : Nat) :
    (∃ j v t cs, Instr.findNow (.int .i64) (.int .i64 n) es.toList 0 = some (some (j, v)) ∧ v = .agg cs.toArray ∧ RdT S cs t ∧ st[n]? = some (some t)) ∨
    ((∀ t, st[n]? ≠ some (some t)) ∧ Instr.findNow (.int .i64) (.int .i64 n) es.toList 0 = some none) := by
  rcases findNow_int (n := n) es.toList 0 (fun e he => by obtain ⟨m, _, _, hk, _⟩ := h.1 e he; exact ⟨m, hk⟩) with ⟨j, e, he, hk, hf⟩ | ⟨hk, hf⟩
  · obtain ⟨m, t, cs, hk2, hv, hR, hs⟩ := h.1 e he
    rw [hk] at hk2
    simp only [Value.int.injEq, true_and] at hk2
    have : n = m := by omega
    subst this
    exact .inl ⟨j, e.val, t, cs, hf, hv, hR, hs⟩
  · refine .inr ⟨fun t ht => ?_, hf⟩
    obtain ⟨e, he, hk2⟩ := h.2 n t ht
    exact hk e he hk2
theorem KnownM.push {S : Store} {es : Array MapEntry} {st : Known} (h : KnownM S es st) {n : Nat} (hn : n < st.length) (hno : ∀ t, st[n]? ≠ some (some t)) {cs : List Value} {u : T} (hu : RdT S cs u) (ck : Nat) :
    KnownM S (es.push { key := .int .i64 n, val := .agg cs.toArray, born := ck }) (st.set n (some u)) := by
  refine ⟨fun e he => ?_, fun m t ht => ?_⟩
  · rw [Array.toList_push] at he
    rcases List.mem_append.1 he with he | he
    · obtain ⟨m, t, cs', hk, hv, hR, hs⟩ := h.1 e he
      refine ⟨m, t, cs', hk, hv, hR, ?_⟩
      have : n ≠ m := fun e => hno t (by rw [e]; exact hs)
      rw [List.getElem?_set_ne this]
      exact hs
    · simp at he
      subst he
      exact ⟨n, u, cs, rfl, rfl, hu, by rw [List.getElem?_set_self hn]⟩
  · rw [Array.toList_push]
    by_cases e : n = m
    · exact ⟨_, List.mem_append_right _ (List.mem_singleton.2 rfl), by rw [e]⟩
    · rw [List.getElem?_set_ne e] at ht
      obtain ⟨x, hx, hk⟩ := h.2 m t ht
      exact ⟨x, List.mem_append_left _ hx, hk⟩
theorem hdEq_comm (t u : T) : hdEq t u = hdEq u t := by
  rw [hdEq, hdEq, Bool.eq_iff_iff]
  simp only [Bool.and_eq_true, decide_eq_true_eq]
  constructor
  · rintro ⟨a, b, c, d⟩; exact ⟨a.symm, b.symm, c.symm, d.symm⟩
  · rintro ⟨a, b, c, d⟩; exact ⟨a.symm, b.symm, c.symm, d.symm⟩
section
attribute [local irreducible] Run CondV GuardV LoadV
theorem instance_calls : ∀ (t u : T) (S : Store) (cs ds : List Value) (mb ck : Nat) (es : Array MapEntry) (st : Known), RdT S cs t → RdT S ds u → okV t → okK u → stOk st → KnownM S es st →
    Tri Try.prog n_i_instance [.agg ds.toArray, .agg cs.toArray, .map (some mb)] [.blk mb (.map es ck)] S fun r I' S' => S' = S ∧ r = .bool (matchT t u st).1 ∧ ∃ es' ck', I' = [.blk mb (.map es' ck')] ∧ KnownM S es' (matchT t u st).2 := by
  refine T.ind fun k' n' s' ks' ih u S cs ds mb ck es st h' h hv hu hst hkc => ?_
  intro w hI
  have hds := h
  obtain ⟨kv', rfl, _, _, _, hks'⟩ := RdT.iff.1 h'
  obtain ⟨kv, rfl, _, _, _, hks⟩ := RdT.iff.1 h
  obtain ⟨k, n, s, ks⟩ := u
  simp only [T.name, T.kids, T.kind, T.n] at hks hks' ⊢
  have hlen := hks'.le
  simp only [maxLen] at hlen
  rw [okV] at hv
  obtain ⟨hv1, hv2⟩ := hv
  have huk := hu
  rw [okK] at hu
  obtain ⟨X, hX⟩ : ∃ X, X = feet [Item.blk mb (.map es ck)] := ⟨_, rfl⟩
  rw [← hX] at hI ⊢
  refine calls_i_instance ?_
  unfold sh_i_instance
  refine r_box hI fun b1 w' hI => ?_
  refine r_box hI fun b2 w' hI => ?_
  have hI : Inv w X [.blk b1 (.cells #[.int .i64 k, .int .i64 n, .string s, kv] t_iTerm), .blk b2 (.cells #[.int .i64 k', .int .i64 n', .string s', kv'] t_iTerm), .blk mb (.map es ck)] S w' := hI.perm (by
    refine (List.perm_append_comm (l₁ := [_, _]) (l₂ := [_])).trans ?_
    exact List.Perm.refl _)
  refine r_fieldL hI 1 rfl fo_iTerm_0 sc_int rfl ?_
  refine r_eql ?_
  refine condP (fun hk1 => ?_) (fun hk1 => ?_)
  · obtain ⟨hn0, hn25⟩ := hv1 hk1
    obtain ⟨j, rfl⟩ : ∃ j : Nat, n' = j := ⟨n'.toNat, by omega⟩
    have hj : j < 26 := by omega
    have hjs : j < st.length := by rw [hst.1]; exact hj
    refine r_fieldL hI 1 rfl fo_iTerm_1 sc_int rfl ?_
    rcases hkc.find j with ⟨q, v, t0, cs0, hf, rfl, hR, hst2⟩ | ⟨hno, hf⟩
    · refine r_lookup (v := .agg cs0.toArray) (ok := true) hI 2 un_Mint_iTerm un_int zo_iTerm rfl (.inl ⟨q, hf, rfl⟩) ?_
      refine r_extract rfl ?_
      refine r_extract rfl ?_
      have hlc := hR.length
      refine r_alloc hI zo_iTerm fun b7 w' hI => ?_
      refine r_storeW hI 3 rfl ag_iTerm (by simpa using hlc) rfl (by simpa using hR.one) fun w' hI => ?_
      refine r_not ?_
      refine condV (fun hb => by cases hb) (fun _ => ?_)
      refine r_loadW hI 3 ag_iTerm rfl (by simpa using hlc) ?_
      refine r_loadW hI 0 ag_iTerm rfl rfl ?_
      refine Run.callPure fn_i_TermSame nm_i_TermSame hI (i_TermSame_calls t0 _ S _ _ hR hds) fun w' hI => ?_
      have hm : matchT (.mk k' j s' ks') (.mk k n s ks) st = (eqT t0 (.mk k n s ks), st) := by
        rw [matchT, if_pos hk1, Int.toNat_natCast, hst2]
      rw [hm]
      exact ⟨_, _, _, rfl, hI.pick [false, false, true, false], Ext.refl _ _ _, rfl, rfl, _, _, rfl, hkc⟩
    · refine r_lookup (ok := false) hI 2 un_Mint_iTerm un_int zo_iTerm rfl (.inr ⟨hf, rfl, rfl⟩) ?_
      refine r_extract rfl ?_
      refine r_extract rfl ?_
      refine r_alloc hI zo_iTerm fun b7 w' hI => ?_
      refine r_storeW hI 3 rfl ag_iTerm rfl rfl (by simp [Value.oneCell']) fun w' hI => ?_
      refine r_not ?_
      refine condV (fun _ => ?_) (fun hb => by cases hb)
      refine r_fieldL hI 1 rfl fo_iTerm_1 sc_int rfl ?_
      refine r_loadW hI 0 ag_iTerm rfl rfl ?_
      refine r_mapNew hI 2 un_Mint_iTerm un_int rfl hf fun w' hI => ?_
      have hm : matchT (.mk k' j s' ks') (.mk k n s ks) st = (true, st.set j (some (.mk k n s ks))) := by
        rw [matchT, if_pos hk1, Int.toNat_natCast, List.getElem?_eq_getElem hjs]
        cases hq : st[j] with
        | none => rfl
        | some t => exact absurd (by rw [List.getElem?_eq_getElem hjs, hq]) (hno t)
      rw [hm]
      exact ⟨_, _, _, rfl, hI.pick [false, false, true, false], Ext.refl _ _ _, rfl, rfl, _, _, rfl, hkc.push hjs hno hds ck⟩
  refine ⟨fun q w' => q = .bool (!hdEq (.mk k n s ks) (.mk k' n' s' ks')) ∧ Inv w X [.blk b1 (.cells #[.int .i64 k, .int .i64 n, .string s, kv] t_iTerm), .blk b2 (.cells #[.int .i64 k', .int .i64 n', .string s', kv'] t_iTerm), .blk mb (.map es ck)] S w', ?_, ?_⟩
  · refine r_fieldL hI 0 rfl fo_iTerm_0 sc_int rfl ?_
    refine r_fieldL hI 1 rfl fo_iTerm_0 sc_int rfl ?_
    refine r_neq ?_
    by_cases e1 : k = k'
    · rw [decide_eq_true e1]
      repeat (first | refine guard_true ?_ | refine guard_ne (by decide) ?_ | refine guard_undef ?_ | refine r_pickT ?_ | refine r_pickF ?_)
      refine r_fieldL hI 0 rfl fo_iTerm_1 sc_int rfl ?_
      refine r_fieldL hI 1 rfl fo_iTerm_1 sc_int rfl ?_
      refine r_neq ?_
      by_cases e2 : n = n'
      · rw [decide_eq_true e2]
        repeat (first | refine guard_true ?_ | refine guard_ne (by decide) ?_ | refine guard_undef ?_ | refine r_pickT ?_ | refine r_pickF ?_)
        refine r_fieldL hI 0 rfl fo_iTerm_2 sc_string rfl ?_
        refine r_fieldL hI 1 rfl fo_iTerm_2 sc_string rfl ?_
        refine r_sneq ?_
        by_cases e3 : s = s'
        · rw [decide_eq_true e3]
          repeat (first | refine guard_true ?_ | refine guard_ne (by decide) ?_ | refine guard_undef ?_ | refine r_pickT ?_ | refine r_pickF ?_)
          refine r_fieldL hI 0 rfl fo_iTerm_3 sc_SiTerm rfl ?_
          refine r_lenSl hks sl_SiTerm ?_
          refine r_fieldL hI 1 rfl fo_iTerm_3 sc_SiTerm rfl ?_
          refine r_lenSl hks' sl_SiTerm ?_
          refine r_neq ?_
          repeat (first | refine guard_true ?_ | refine guard_ne (by decide) ?_ | refine guard_undef ?_ | refine r_pickT ?_ | refine r_pickF ?_)
          exact ⟨by rw [hdEq_mk, decide_eq_true e1, decide_eq_true e2, decide_eq_true e3, lenEq]; rfl, hI⟩
        · rw [decide_eq_false e3]
          repeat (first | refine guard_true ?_ | refine guard_ne (by decide) ?_ | refine guard_undef ?_ | refine r_pickT ?_ | refine r_pickF ?_)
          exact ⟨by rw [hdEq_mk, decide_eq_true e1, decide_eq_true e2, decide_eq_false e3]; rfl, hI⟩
      · rw [decide_eq_false e2]
        repeat (first | refine guard_true ?_ | refine guard_ne (by decide) ?_ | refine guard_undef ?_ | refine r_pickT ?_ | refine r_pickF ?_)
        exact ⟨by rw [hdEq_mk, decide_eq_true e1, decide_eq_false e2]; rfl, hI⟩
    · rw [decide_eq_false e1]
      repeat (first | refine guard_true ?_ | refine guard_ne (by decide) ?_ | refine guard_undef ?_ | refine r_pickT ?_ | refine r_pickF ?_)
      exact ⟨by rw [hdEq_mk, decide_eq_false e1]; rfl, hI⟩

  intro q _ _ _ _ _ _ _ _ _ _ _ _ _ _ _ _ _ _ _ _ _ _ _ _ _ _ _ w'
  rintro ⟨rfl, hI⟩
  cases hd : hdEq (.mk k n s ks) (.mk k' n' s' ks')
  · refine condV (fun _ => ?_) (fun hb => by cases hb)
    have hm : matchT (.mk k' n' s' ks') (.mk k n s ks) st = (false, st) := by rw [matchT, if_neg hk1, if_neg (by rw [hdEq_comm, hd]; decide)]
    rw [hm]
    exact ⟨_, _, _, rfl, hI.pick [false, false, true], Ext.refl _ _ _, rfl, rfl, _, _, rfl, hkc⟩
  refine condV (fun hb => by cases hb) (fun _ => ?_)
  have hle : ks.length = ks'.length := by
    rw [hdEq_mk] at hd
    simp only [Bool.and_eq_true, decide_eq_true_eq] at hd
    exact hd.2.2.2
  have hm : matchT (.mk k' n' s' ks') (.mk k n s ks) st = matchL ks' ks st := by rw [matchT, if_neg hk1, if_pos (by rw [hdEq_comm, hd])]; rfl
  rw [hm]
  have hu2 := hu.2
  refine r_fieldL hI 1 rfl fo_iTerm_3 sc_SiTerm rfl ?_
  refine r_lenSl hks' sl_SiTerm ?_
  refine ⟨fun i w' => ∃ (j : Nat) (st' : Known) (es' : Array MapEntry) (ck' : Nat), j ≤ ks'.length ∧ i = .int .i64 j ∧ matchL (ks'.drop j) (ks.drop j) st' = matchL ks' ks st ∧ stOk st' ∧ KnownM S es' st' ∧ Inv w X [.blk b1 (.cells #[.int .i64 k, .int .i64 n, .string s, kv] t_iTerm), .blk b2 (.cells #[.int .i64 k', .int .i64 n', .string s', kv'] t_iTerm), .blk mb (.map es' ck')] S w', fun i _ => ks'.length - (intOf i).toNat, ⟨0, st, es, ck, Nat.zero_le _, rfl, rfl, hst, hkc, hI⟩, ?_⟩
  intro t60 _ _ _ _ _ _ _ _ _ _ _ _ _ _ _ _ _ _ w'
  rintro ⟨j, st', es', ck', hj, rfl, hrel, hst', hkc', hI⟩
  refine r_lss ?_
  refine condP (fun hji => ?_) (fun hji => ?_)
  · have hj2 : j < ks'.length := by omega
    have hj1 : j < ks.length := by omega
    obtain ⟨c1, o1, cap1, a1, E1, fz1, rfl, hS1, hR1⟩ := hks.at_ hj1
    obtain ⟨c2, o2, cap2, a2, E2, fz2, rfl, hS2, hR2⟩ := hks'.at_ hj2
    rw [matchL_drop ks' ks st' j hj2 hj1] at hrel
    have hcall := ih _ (List.getElem_mem hj2) ks[j] S _ _ mb ck' es' st' hR2 hR1 (okVL_mem hv2 _ (List.getElem_mem hj2)) (okKL_mem hu2 _ (List.getElem_mem hj1)) hst' hkc'
    have hsn := match_ok ks'[j] ks[j] st' hst' (okKL_mem hu2 _ (List.getElem_mem hj1))
    generalize hr : matchT ks'[j] ks[j] st' = r at hrel hcall hsn
    refine ⟨fun D x75 x74 x73 x72 x71 x70 x69 x68 x67 x66 x65 x64 x63 w_ => (D 0 = true → x63 = .pointer (some ⟨b1, 3, none⟩)) ∧ (D 1 = true → x64 = .slice (some ⟨c1, o1, none⟩) ks.length cap1) ∧ (D 2 = true → x65 = .int .i64 j) ∧ (D 3 = true → x66 = .pointer (some ⟨c1, o1 + j * 4, none⟩)) ∧ (D 4 = true → x67 = .agg (cellsAt a1 (o1 + j * 4) 4).toArray) ∧ (D 5 = true → x68 = .pointer (some ⟨b2, 3, none⟩)) ∧ (D 6 = true → x69 = .slice (some ⟨c2, o2, none⟩) ks'.length cap2) ∧ (D 7 = true → x70 = .int .i64 j) ∧ (D 8 = true → x71 = .pointer (some ⟨c2, o2 + j * 4, none⟩)) ∧ (D 9 = true → x72 = .agg (cellsAt a2 (o2 + j * 4) 4).toArray) ∧ (D 10 = true → x73 = .map (some mb)) ∧ (D 11 = true → x74 = .bool r.1) ∧ (D 12 = true → x75 = .bool (!r.1)) ∧ (D 11 = false → Inv w X [.blk b1 (.cells #[.int .i64 k, .int .i64 n, .string s, .slice (some ⟨c1, o1, none⟩) ks.length cap1] t_iTerm), .blk b2 (.cells #[.int .i64 k', .int .i64 n', .string s', .slice (some ⟨c2, o2, none⟩) ks'.length cap2] t_iTerm), .blk mb (.map es' ck')] S w_) ∧ (D 11 = true → ∃ es2 ck2, KnownM S es2 r.2 ∧ Inv w X [.blk b1 (.cells #[.int .i64 k, .int .i64 n, .string s, .slice (some ⟨c1, o1, none⟩) ks.length cap1] t_iTerm), .blk b2 (.cells #[.int .i64 k', .int .i64 n', .string s', .slice (some ⟨c2, o2, none⟩) ks'.length cap2] t_iTerm), .blk mb (.map es2 ck2)] S w_) ∧ ∃ es3 ck3, Inv w X [.blk b1 (.cells #[.int .i64 k, .int .i64 n, .string s, .slice (some ⟨c1, o1, none⟩) ks.length cap1] t_iTerm), .blk b2 (.cells #[.int .i64 k', .int .i64 n', .string s', .slice (some ⟨c2, o2, none⟩) ks'.length cap2] t_iTerm), .blk mb (.map es3 ck3)] S w_, ⟨fun h => Bool.noConfusion h, fun h => Bool.noConfusion h, fun h => Bool.noConfusion h, fun h => Bool.noConfusion h, fun h => Bool.noConfusion h, fun h => Bool.noConfusion h, fun h => Bool.noConfusion h, fun h => Bool.noConfusion h, fun h => Bool.noConfusion h, fun h => Bool.noConfusion h, fun h => Bool.noConfusion h, fun h => Bool.noConfusion h, fun h => Bool.noConfusion h, ⟨fun _ => hI.draw, fun h => Bool.noConfusion h, es', ck', hI.draw⟩⟩, ⟨?_, ?_, ?_, ?_, ?_, ?_, ?_, ?_, ?_, ?_, ?_, ?_, ?_, trivial⟩, ?_⟩
    · intro D hD_  x75 x74 x73 x72 x71 x70 x69 x68 x67 x66 x65 x64 x63 w_
      rintro ⟨h0_, h1_, h2_, h3_, h4_, h5_, h6_, h7_, h8_, h9_, h10_, h11_, h12_, ⟨hI0, hI1, es3, ck3, hI⟩⟩
      refine r_field fo_iTerm_3 ?_
      exact ⟨fun _ => rfl, h1_, h2_, h3_, h4_, h5_, h6_, h7_, h8_, h9_, h10_, h11_, h12_, ⟨hI0, hI1, es3, ck3, hI⟩⟩
    · intro D hD_ d0_0 x75 x74 x73 x72 x71 x70 x69 x68 x67 x66 x65 x64 x63 w_
      rintro ⟨h0_, h1_, h2_, h3_, h4_, h5_, h6_, h7_, h8_, h9_, h10_, h11_, h12_, ⟨hI0, hI1, es3, ck3, hI⟩⟩
      obtain rfl := h0_ d0_0
      refine r_loadL hI 0 sc_SiTerm rfl rfl ?_
      exact ⟨h0_, fun _ => rfl, h2_, h3_, h4_, h5_, h6_, h7_, h8_, h9_, h10_, h11_, h12_, ⟨hI0, hI1, es3, ck3, hI⟩⟩
    · intro D hD_  x75 x74 x73 x72 x71 x70 x69 x68 x67 x66 x65 x64 x63 w_
      rintro ⟨h0_, h1_, h2_, h3_, h4_, h5_, h6_, h7_, h8_, h9_, h10_, h11_, h12_, ⟨hI0, hI1, es3, ck3, hI⟩⟩
      exact ⟨h0_, h1_, fun _ => rfl, h3_, h4_, h5_, h6_, h7_, h8_, h9_, h10_, h11_, h12_, ⟨hI0, hI1, es3, ck3, hI⟩⟩
    · intro D hD_ d1_0 d2_1 x75 x74 x73 x72 x71 x70 x69 x68 x67 x66 x65 x64 x63 w_
      rintro ⟨h0_, h1_, h2_, h3_, h4_, h5_, h6_, h7_, h8_, h9_, h10_, h11_, h12_, ⟨hI0, hI1, es3, ck3, hI⟩⟩
      obtain rfl := h1_ d1_0
      obtain rfl := h2_ d2_1
      refine r_indexAddr sl_SiTerm hj1 ?_
      exact ⟨h0_, h1_, h2_, fun _ => rfl, h4_, h5_, h6_, h7_, h8_, h9_, h10_, h11_, h12_, ⟨hI0, hI1, es3, ck3, hI⟩⟩
    · intro D hD_ d3_0 x75 x74 x73 x72 x71 x70 x69 x68 x67 x66 x65 x64 x63 w_
      rintro ⟨h0_, h1_, h2_, h3_, h4_, h5_, h6_, h7_, h8_, h9_, h10_, h11_, h12_, ⟨hI0, hI1, es3, ck3, hI⟩⟩
      obtain rfl := h3_ d3_0
      refine r_loadA ag_iTerm hR1.length (fun j v hj => by rw [hI.cellS hS1]; exact cellsAt_get rfl j v hj) ?_
      exact ⟨h0_, h1_, h2_, h3_, fun _ => rfl, h5_, h6_, h7_, h8_, h9_, h10_, h11_, h12_, ⟨hI0, hI1, es3, ck3, hI⟩⟩
    · intro D hD_  x75 x74 x73 x72 x71 x70 x69 x68 x67 x66 x65 x64 x63 w_
      rintro ⟨h0_, h1_, h2_, h3_, h4_, h5_, h6_, h7_, h8_, h9_, h10_, h11_, h12_, ⟨hI0, hI1, es3, ck3, hI⟩⟩
      refine r_field fo_iTerm_3 ?_
      exact ⟨h0_, h1_, h2_, h3_, h4_, fun _ => rfl, h6_, h7_, h8_, h9_, h10_, h11_, h12_, ⟨hI0, hI1, es3, ck3, hI⟩⟩
    · intro D hD_ d5_0 x75 x74 x73 x72 x71 x70 x69 x68 x67 x66 x65 x64 x63 w_
      rintro ⟨h0_, h1_, h2_, h3_, h4_, h5_, h6_, h7_, h8_, h9_, h10_, h11_, h12_, ⟨hI0, hI1, es3, ck3, hI⟩⟩
      obtain rfl := h5_ d5_0
      refine r_loadL hI 1 sc_SiTerm rfl rfl ?_
      exact ⟨h0_, h1_, h2_, h3_, h4_, h5_, fun _ => rfl, h7_, h8_, h9_, h10_, h11_, h12_, ⟨hI0, hI1, es3, ck3, hI⟩⟩
    · intro D hD_  x75 x74 x73 x72 x71 x70 x69 x68 x67 x66 x65 x64 x63 w_
      rintro ⟨h0_, h1_, h2_, h3_, h4_, h5_, h6_, h7_, h8_, h9_, h10_, h11_, h12_, ⟨hI0, hI1, es3, ck3, hI⟩⟩
      exact ⟨h0_, h1_, h2_, h3_, h4_, h5_, h6_, fun _ => rfl, h8_, h9_, h10_, h11_, h12_, ⟨hI0, hI1, es3, ck3, hI⟩⟩
    · intro D hD_ d6_0 d7_1 x75 x74 x73 x72 x71 x70 x69 x68 x67 x66 x65 x64 x63 w_
      rintro ⟨h0_, h1_, h2_, h3_, h4_, h5_, h6_, h7_, h8_, h9_, h10_, h11_, h12_, ⟨hI0, hI1, es3, ck3, hI⟩⟩
      obtain rfl := h6_ d6_0
      obtain rfl := h7_ d7_1
      refine r_indexAddr sl_SiTerm hj2 ?_
      exact ⟨h0_, h1_, h2_, h3_, h4_, h5_, h6_, h7_, fun _ => rfl, h9_, h10_, h11_, h12_, ⟨hI0, hI1, es3, ck3, hI⟩⟩
    · intro D hD_ d8_0 x75 x74 x73 x72 x71 x70 x69 x68 x67 x66 x65 x64 x63 w_
      rintro ⟨h0_, h1_, h2_, h3_, h4_, h5_, h6_, h7_, h8_, h9_, h10_, h11_, h12_, ⟨hI0, hI1, es3, ck3, hI⟩⟩
      obtain rfl := h8_ d8_0
      refine r_loadA ag_iTerm hR2.length (fun j v hj => by rw [hI.cellS hS2]; exact cellsAt_get rfl j v hj) ?_
      exact ⟨h0_, h1_, h2_, h3_, h4_, h5_, h6_, h7_, h8_, fun _ => rfl, h10_, h11_, h12_, ⟨hI0, hI1, es3, ck3, hI⟩⟩
    · intro D hD_  x75 x74 x73 x72 x71 x70 x69 x68 x67 x66 x65 x64 x63 w_
      rintro ⟨h0_, h1_, h2_, h3_, h4_, h5_, h6_, h7_, h8_, h9_, h10_, h11_, h12_, ⟨hI0, hI1, es3, ck3, hI⟩⟩
      exact ⟨h0_, h1_, h2_, h3_, h4_, h5_, h6_, h7_, h8_, h9_, fun _ => rfl, h11_, h12_, ⟨hI0, hI1, es3, ck3, hI⟩⟩
    · intro D hD_ d4_0 d9_1 d10_2 x75 x74 x73 x72 x71 x70 x69 x68 x67 x66 x65 x64 x63 w_
      rintro ⟨h0_, h1_, h2_, h3_, h4_, h5_, h6_, h7_, h8_, h9_, h10_, h11_, h12_, ⟨hI0, hI1, es3, ck3, hI⟩⟩
      obtain rfl := h4_ d4_0
      obtain rfl := h9_ d9_1
      obtain rfl := h10_ d10_2
      refine Run.call (A := [_, _]) fn_i_instance nm_i_instance (hI0 hD_) hcall fun v' I' S w_ => ?_
      rintro ⟨rfl, rfl, es2, ck2, rfl, hk2⟩ _ hI
      have hI0 := fun (h : setD D 11 11 = false) => (Bool.noConfusion h : Inv w X [.blk b1 (.cells #[.int .i64 k, .int .i64 n, .string s, .slice (some ⟨c1, o1, none⟩) ks.length cap1] t_iTerm), .blk b2 (.cells #[.int .i64 k', .int .i64 n', .string s', .slice (some ⟨c2, o2, none⟩) ks'.length cap2] t_iTerm), .blk mb (.map es' ck')] S w_)
      have hI1 := fun (_ : setD D 11 11 = true) => (⟨es2, ck2, hk2, hI⟩ : ∃ es2 ck2, KnownM S es2 r.2 ∧ Inv w X [.blk b1 (.cells #[.int .i64 k, .int .i64 n, .string s, .slice (some ⟨c1, o1, none⟩) ks.length cap1] t_iTerm), .blk b2 (.cells #[.int .i64 k', .int .i64 n', .string s', .slice (some ⟨c2, o2, none⟩) ks'.length cap2] t_iTerm), .blk mb (.map es2 ck2)] S w_)
      obtain ⟨es3, ck3, hI⟩ : ∃ es3 ck3, Inv w X [.blk b1 (.cells #[.int .i64 k, .int .i64 n, .string s, .slice (some ⟨c1, o1, none⟩) ks.length cap1] t_iTerm), .blk b2 (.cells #[.int .i64 k', .int .i64 n', .string s', .slice (some ⟨c2, o2, none⟩) ks'.length cap2] t_iTerm), .blk mb (.map es3 ck3)] S w_ := ⟨es2, ck2, hI⟩
      exact ⟨h0_, h1_, h2_, h3_, h4_, h5_, h6_, h7_, h8_, h9_, h10_, fun _ => rfl, h12_, ⟨hI0, hI1, es3, ck3, hI⟩⟩
    · intro D hD_ d11_0 x75 x74 x73 x72 x71 x70 x69 x68 x67 x66 x65 x64 x63 w_
      rintro ⟨h0_, h1_, h2_, h3_, h4_, h5_, h6_, h7_, h8_, h9_, h10_, h11_, h12_, ⟨hI0, hI1, es3, ck3, hI⟩⟩
      obtain rfl := h11_ d11_0
      refine r_not ?_
      exact ⟨h0_, h1_, h2_, h3_, h4_, h5_, h6_, h7_, h8_, h9_, h10_, h11_, fun _ => rfl, ⟨hI0, hI1, es3, ck3, hI⟩⟩
    intro D d12_ d11_ d10_ d9_ d8_ d7_ d6_ d5_ d4_ d3_ d2_ d1_ d0_ x75 x74 x73 x72 x71 x70 x69 x68 x67 x66 x65 x64 x63 w_
    rintro ⟨h0_, h1_, h2_, h3_, h4_, h5_, h6_, h7_, h8_, h9_, h10_, h11_, h12_, ⟨hI0, hI1, es3, ck3, hI⟩⟩
    obtain rfl := h12_ d12_
    obtain rfl := h11_ d11_
    obtain rfl := h10_ d10_
    obtain rfl := h9_ d9_
    obtain rfl := h8_ d8_
    obtain rfl := h7_ d7_
    obtain rfl := h6_ d6_
    obtain rfl := h5_ d5_
    obtain rfl := h4_ d4_
    obtain rfl := h3_ d3_
    obtain rfl := h2_ d2_
    obtain rfl := h1_ d1_
    obtain rfl := h0_ d0_
    clear h0_ h1_ h2_ h3_ h4_ h5_ h6_ h7_ h8_ h9_ h10_ h11_ h12_
    obtain ⟨es2, ck2, hk2, hI⟩ := hI1 d11_
    clear hI0 hI1
    refine condV (fun hne => ?_) (fun he' => ?_)
    · simp only [Bool.not_eq_true'] at hne
      rw [hne, if_neg (by decide)] at hrel
      rw [← hrel]
      exact ⟨_, _, _, rfl, hI.pick [false, false, true], Ext.refl _ _ _, rfl, rfl, _, _, rfl, hk2⟩
    · simp only [Bool.not_eq_false'] at he'
      rw [he', if_pos rfl] at hrel
      refine r_add (by omega) ?_
      exact ⟨⟨j + 1, r.2, es2, ck2, hj2, rfl, hrel, hsn, hk2, hI⟩, by simp [intOf]; omega⟩
  · have : j = ks'.length := by omega
    subst this
    rw [List.drop_length, ← hle, List.drop_length] at hrel
    rw [← hrel]
    exact ⟨_, _, _, rfl, hI.pick [false, false, true], Ext.refl _ _ _, rfl, rfl, _, _, rfl, hkc'⟩
end

end Go.Proofs.Ytnoieadimkgjcaa
