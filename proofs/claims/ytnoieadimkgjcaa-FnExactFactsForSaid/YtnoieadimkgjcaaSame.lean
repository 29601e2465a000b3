/- Whether terms are the same: both sides. -/
import Derived.Test.YtnoieadimkgjcaaEq
import Derived.Test.YtnoieadimkgjcaaVars
namespace Go.Proofs.Ytnoieadimkgjcaa
open Go Go.RowKit
attribute [local irreducible] Run CondV GuardV LoadV

def hdEq (t u : T) : Bool := decide (t.kind = u.kind) && (decide (t.n = u.n) && (decide (t.name = u.name) && decide (t.kids.length = u.kids.length)))
theorem hdEq_mk (k n k' n' : Int) (s s' : ByteArray) (ks ks' : List T) : hdEq (.mk k n s ks) (.mk k' n' s' ks') = (decide (k = k') && (decide (n = n') && (decide (s = s') && decide (ks.length = ks'.length)))) := rfl
theorem lenEq {α β : Type} (a : List α) (b : List β) : decide (a.length = b.length) = decide ((a.length : Int) = (b.length : Int)) := by
  rw [Bool.eq_iff_iff]
  simp only [decide_eq_true_eq]
  omega
theorem eqT_hd (t u : T) : eqT t u = (hdEq t u && eqL t.kids u.kids) := by
  obtain ⟨k, n, s, ks⟩ := t
  obtain ⟨k', n', s', ks'⟩ := u
  rw [eqT, hdEq_mk]
  by_cases h : ks.length = ks'.length
  · rw [decide_eq_true h, Bool.and_true, Bool.and_assoc, Bool.and_assoc]; rfl
  · rw [eqL_len h, decide_eq_false h]; simp
theorem s_TermSame_calls : ∀ (t u : T) (S : Store) (cs ds : List Value), RdT S cs t → RdT S ds u → Pure Try.prog n_s_TermSame [.agg cs.toArray, .agg ds.toArray] S (.bool (eqT t u)) := by
  refine T.ind fun k n s ks ih u S cs ds h h' => ?_
  intro w hI
  obtain ⟨kv, rfl, _, _, _, hks⟩ := RdT.iff.1 h
  obtain ⟨kv', rfl, _, _, _, hks'⟩ := RdT.iff.1 h'
  obtain ⟨k', n', s', ks'⟩ := u
  simp only [T.name, T.kids, T.kind, T.n] at hks hks' ⊢
  have hlen := hks.le
  simp only [maxLen] at hlen
  refine calls_s_TermSame ?_
  unfold sh_s_TermSame
  refine r_box hI fun b1 w' hI => ?_
  refine r_box hI fun b2 w' hI => ?_
  have hI : Inv w [] [.blk b1 (.cells #[.int .i64 k, .int .i64 n, .string s, kv] t_iTerm), .blk b2 (.cells #[.int .i64 k', .int .i64 n', .string s', kv'] t_iTerm)] S w' := hI
  refine ⟨fun q w' => q = .bool (!hdEq (.mk k n s ks) (.mk k' n' s' ks')) ∧ Inv w [] [.blk b1 (.cells #[.int .i64 k, .int .i64 n, .string s, kv] t_iTerm), .blk b2 (.cells #[.int .i64 k', .int .i64 n', .string s', kv'] t_iTerm)] S w', ?_, ?_⟩
  · refine r_fieldL hI 0 rfl fo_iTerm_0 sc_int rfl ?_
    refine r_fieldL hI 1 rfl fo_iTerm_0 sc_int rfl ?_
    refine r_neq ?_
    by_cases e1 : k = k'
    · rw [decide_eq_true e1]
      repeat (first | refine guard_true ?_ | refine guard_ne (by decide) ?_ | refine guard_undef ?_ | refine r_pickT ?_ | refine r_pickF ?_)
      refine r_fieldL hI 0 rfl fo_iTerm_1 sc_int rfl ?_
      refine r_fieldL hI 1 rfl fo_iTerm_1 sc_int rfl ?_
      refine r_neq ?_
      by_cases e2 : n = n'
      · rw [decide_eq_true e2]
        repeat (first | refine guard_true ?_ | refine guard_ne (by decide) ?_ | refine guard_undef ?_ | refine r_pickT ?_ | refine r_pickF ?_)
        refine r_fieldL hI 0 rfl fo_iTerm_2 sc_string rfl ?_
        refine r_fieldL hI 1 rfl fo_iTerm_2 sc_string rfl ?_
        refine r_sneq ?_
        by_cases e3 : s = s'
        · rw [decide_eq_true e3]
          repeat (first | refine guard_true ?_ | refine guard_ne (by decide) ?_ | refine guard_undef ?_ | refine r_pickT ?_ | refine r_pickF ?_)
          refine r_fieldL hI 0 rfl fo_iTerm_3 sc_SiTerm rfl ?_
          refine r_lenSl hks sl_SiTerm ?_
          refine r_fieldL hI 1 rfl fo_iTerm_3 sc_SiTerm rfl ?_
          refine r_lenSl hks' sl_SiTerm ?_
          refine r_neq ?_
          repeat (first | refine guard_true ?_ | refine guard_ne (by decide) ?_ | refine guard_undef ?_ | refine r_pickT ?_ | refine r_pickF ?_)
          exact ⟨by rw [hdEq_mk, decide_eq_true e1, decide_eq_true e2, decide_eq_true e3, lenEq]; rfl, hI⟩
        · rw [decide_eq_false e3]
          repeat (first | refine guard_true ?_ | refine guard_ne (by decide) ?_ | refine guard_undef ?_ | refine r_pickT ?_ | refine r_pickF ?_)
          exact ⟨by rw [hdEq_mk, decide_eq_true e1, decide_eq_true e2, decide_eq_false e3]; rfl, hI⟩
      · rw [decide_eq_false e2]
        repeat (first | refine guard_true ?_ | refine guard_ne (by decide) ?_ | refine guard_undef ?_ | refine r_pickT ?_ | refine r_pickF ?_)
        exact ⟨by rw [hdEq_mk, decide_eq_true e1, decide_eq_false e2]; rfl, hI⟩
    · rw [decide_eq_false e1]
      repeat (first | refine guard_true ?_ | refine guard_ne (by decide) ?_ | refine guard_undef ?_ | refine r_pickT ?_ | refine r_pickF ?_)
      exact ⟨by rw [hdEq_mk, decide_eq_false e1]; rfl, hI⟩

  intro q _ _ _ _ _ _ _ _ _ _ _ _ _ _ _ _ _ _ _ _ _ _ _ _ _ _ _ w'
  rintro ⟨rfl, hI⟩
  rw [eqT_hd]
  cases hd : hdEq (.mk k n s ks) (.mk k' n' s' ks')
  · refine condV (fun _ => done hI rfl) (fun hb => by cases hb)
  refine condV (fun hb => by cases hb) (fun _ => ?_)
  have hle : ks.length = ks'.length := by
    rw [hdEq_mk] at hd
    simp only [Bool.and_eq_true, decide_eq_true_eq] at hd
    exact hd.2.2.2
  simp only [T.kids, Bool.true_and]
  refine ⟨fun i w' => ∃ j : Nat, j ≤ ks.length ∧ i = .int .i64 j ∧ eqL (ks.drop j) (ks'.drop j) = eqL ks ks' ∧ Inv w [] [.blk b1 (.cells #[.int .i64 k, .int .i64 n, .string s, kv] t_iTerm), .blk b2 (.cells #[.int .i64 k', .int .i64 n', .string s', kv'] t_iTerm)] S w', fun i _ => ks.length - (intOf i).toNat, ⟨0, Nat.zero_le _, rfl, rfl, hI⟩, ?_⟩
  intro t5 _ _ _ _ _ _ _ _ _ _ _ _ _ _ _ _ _ _ _ _ w'
  rintro ⟨j, hj, rfl, hrel, hI⟩
  refine r_fieldL hI 0 rfl fo_iTerm_3 sc_SiTerm rfl ?_
  refine r_lenSl hks sl_SiTerm ?_
  refine r_lss ?_
  refine condP (fun hji => ?_) (fun hji => ?_)
  · have hj1 : j < ks.length := by omega
    have hj2 : j < ks'.length := by omega
    obtain ⟨c1, o1, cap1, a1, E1, fz1, rfl, hS1, hR1⟩ := hks.at_ hj1
    obtain ⟨c2, o2, cap2, a2, E2, fz2, rfl, hS2, hR2⟩ := hks'.at_ hj2
    have hstep : eqL (ks.drop j) (ks'.drop j) = (eqT ks[j] ks'[j] && eqL (ks.drop (j + 1)) (ks'.drop (j + 1))) := by
      rw [List.drop_eq_getElem_cons hj1, List.drop_eq_getElem_cons hj2, eqL]
    refine ⟨fun D x52 x51 x50 x49 x48 x47 x46 x45 x44 x43 x42 x41 w_ => (D 0 = true → x41 = .pointer (some ⟨b1, 3, none⟩)) ∧ (D 1 = true → x42 = .slice (some ⟨c1, o1, none⟩) ks.length cap1) ∧ (D 2 = true → x43 = .int .i64 j) ∧ (D 3 = true → x44 = .pointer (some ⟨c1, o1 + j * 4, none⟩)) ∧ (D 4 = true → x45 = .agg (cellsAt a1 (o1 + j * 4) 4).toArray) ∧ (D 5 = true → x46 = .pointer (some ⟨b2, 3, none⟩)) ∧ (D 6 = true → x47 = .slice (some ⟨c2, o2, none⟩) ks'.length cap2) ∧ (D 7 = true → x48 = .int .i64 j) ∧ (D 8 = true → x49 = .pointer (some ⟨c2, o2 + j * 4, none⟩)) ∧ (D 9 = true → x50 = .agg (cellsAt a2 (o2 + j * 4) 4).toArray) ∧ (D 10 = true → x51 = .bool (eqT ks[j] ks'[j])) ∧ (D 11 = true → x52 = .bool (!eqT ks[j] ks'[j])) ∧ Inv w [] [.blk b1 (.cells #[.int .i64 k, .int .i64 n, .string s, .slice (some ⟨c1, o1, none⟩) ks.length cap1] t_iTerm), .blk b2 (.cells #[.int .i64 k', .int .i64 n', .string s', .slice (some ⟨c2, o2, none⟩) ks'.length cap2] t_iTerm)] S w_, ⟨fun h => Bool.noConfusion h, fun h => Bool.noConfusion h, fun h => Bool.noConfusion h, fun h => Bool.noConfusion h, fun h => Bool.noConfusion h, fun h => Bool.noConfusion h, fun h => Bool.noConfusion h, fun h => Bool.noConfusion h, fun h => Bool.noConfusion h, fun h => Bool.noConfusion h, fun h => Bool.noConfusion h, fun h => Bool.noConfusion h, hI.draw⟩, ⟨?_, ?_, ?_, ?_, ?_, ?_, ?_, ?_, ?_, ?_, ?_, ?_, trivial⟩, ?_⟩
    · intro D hD_  x52 x51 x50 x49 x48 x47 x46 x45 x44 x43 x42 x41 w_
      rintro ⟨h0_, h1_, h2_, h3_, h4_, h5_, h6_, h7_, h8_, h9_, h10_, h11_, hI⟩
      refine r_field fo_iTerm_3 ?_
      exact ⟨fun _ => rfl, h1_, h2_, h3_, h4_, h5_, h6_, h7_, h8_, h9_, h10_, h11_, hI⟩
    · intro D hD_ d0_0 x52 x51 x50 x49 x48 x47 x46 x45 x44 x43 x42 x41 w_
      rintro ⟨h0_, h1_, h2_, h3_, h4_, h5_, h6_, h7_, h8_, h9_, h10_, h11_, hI⟩
      obtain rfl := h0_ d0_0
      refine r_loadL hI 0 sc_SiTerm rfl rfl ?_
      exact ⟨h0_, fun _ => rfl, h2_, h3_, h4_, h5_, h6_, h7_, h8_, h9_, h10_, h11_, hI⟩
    · intro D hD_  x52 x51 x50 x49 x48 x47 x46 x45 x44 x43 x42 x41 w_
      rintro ⟨h0_, h1_, h2_, h3_, h4_, h5_, h6_, h7_, h8_, h9_, h10_, h11_, hI⟩
      exact ⟨h0_, h1_, fun _ => rfl, h3_, h4_, h5_, h6_, h7_, h8_, h9_, h10_, h11_, hI⟩
    · intro D hD_ d1_0 d2_1 x52 x51 x50 x49 x48 x47 x46 x45 x44 x43 x42 x41 w_
      rintro ⟨h0_, h1_, h2_, h3_, h4_, h5_, h6_, h7_, h8_, h9_, h10_, h11_, hI⟩
      obtain rfl := h1_ d1_0
      obtain rfl := h2_ d2_1
      refine r_indexAddr sl_SiTerm hj1 ?_
      exact ⟨h0_, h1_, h2_, fun _ => rfl, h4_, h5_, h6_, h7_, h8_, h9_, h10_, h11_, hI⟩
    · intro D hD_ d3_0 x52 x51 x50 x49 x48 x47 x46 x45 x44 x43 x42 x41 w_
      rintro ⟨h0_, h1_, h2_, h3_, h4_, h5_, h6_, h7_, h8_, h9_, h10_, h11_, hI⟩
      obtain rfl := h3_ d3_0
      refine r_loadA ag_iTerm hR1.length (fun j v hj => by rw [hI.cellS hS1]; exact cellsAt_get rfl j v hj) ?_
      exact ⟨h0_, h1_, h2_, h3_, fun _ => rfl, h5_, h6_, h7_, h8_, h9_, h10_, h11_, hI⟩
    · intro D hD_  x52 x51 x50 x49 x48 x47 x46 x45 x44 x43 x42 x41 w_
      rintro ⟨h0_, h1_, h2_, h3_, h4_, h5_, h6_, h7_, h8_, h9_, h10_, h11_, hI⟩
      refine r_field fo_iTerm_3 ?_
      exact ⟨h0_, h1_, h2_, h3_, h4_, fun _ => rfl, h6_, h7_, h8_, h9_, h10_, h11_, hI⟩
    · intro D hD_ d5_0 x52 x51 x50 x49 x48 x47 x46 x45 x44 x43 x42 x41 w_
      rintro ⟨h0_, h1_, h2_, h3_, h4_, h5_, h6_, h7_, h8_, h9_, h10_, h11_, hI⟩
      obtain rfl := h5_ d5_0
      refine r_loadL hI 1 sc_SiTerm rfl rfl ?_
      exact ⟨h0_, h1_, h2_, h3_, h4_, h5_, fun _ => rfl, h7_, h8_, h9_, h10_, h11_, hI⟩
    · intro D hD_  x52 x51 x50 x49 x48 x47 x46 x45 x44 x43 x42 x41 w_
      rintro ⟨h0_, h1_, h2_, h3_, h4_, h5_, h6_, h7_, h8_, h9_, h10_, h11_, hI⟩
      exact ⟨h0_, h1_, h2_, h3_, h4_, h5_, h6_, fun _ => rfl, h8_, h9_, h10_, h11_, hI⟩
    · intro D hD_ d6_0 d7_1 x52 x51 x50 x49 x48 x47 x46 x45 x44 x43 x42 x41 w_
      rintro ⟨h0_, h1_, h2_, h3_, h4_, h5_, h6_, h7_, h8_, h9_, h10_, h11_, hI⟩
      obtain rfl := h6_ d6_0
      obtain rfl := h7_ d7_1
      refine r_indexAddr sl_SiTerm hj2 ?_
      exact ⟨h0_, h1_, h2_, h3_, h4_, h5_, h6_, h7_, fun _ => rfl, h9_, h10_, h11_, hI⟩
    · intro D hD_ d8_0 x52 x51 x50 x49 x48 x47 x46 x45 x44 x43 x42 x41 w_
      rintro ⟨h0_, h1_, h2_, h3_, h4_, h5_, h6_, h7_, h8_, h9_, h10_, h11_, hI⟩
      obtain rfl := h8_ d8_0
      refine r_loadA ag_iTerm hR2.length (fun j v hj => by rw [hI.cellS hS2]; exact cellsAt_get rfl j v hj) ?_
      exact ⟨h0_, h1_, h2_, h3_, h4_, h5_, h6_, h7_, h8_, fun _ => rfl, h10_, h11_, hI⟩
    · intro D hD_ d4_0 d9_1 x52 x51 x50 x49 x48 x47 x46 x45 x44 x43 x42 x41 w_
      rintro ⟨h0_, h1_, h2_, h3_, h4_, h5_, h6_, h7_, h8_, h9_, h10_, h11_, hI⟩
      obtain rfl := h4_ d4_0
      obtain rfl := h9_ d9_1
      refine Run.callPure fn_s_TermSame nm_s_TermSame hI (ih _ (List.getElem_mem hj1) _ S _ _ hR1 hR2) fun w_ hI => ?_
      exact ⟨h0_, h1_, h2_, h3_, h4_, h5_, h6_, h7_, h8_, h9_, fun _ => rfl, h11_, hI⟩
    · intro D hD_ d10_0 x52 x51 x50 x49 x48 x47 x46 x45 x44 x43 x42 x41 w_
      rintro ⟨h0_, h1_, h2_, h3_, h4_, h5_, h6_, h7_, h8_, h9_, h10_, h11_, hI⟩
      obtain rfl := h10_ d10_0
      refine r_not ?_
      exact ⟨h0_, h1_, h2_, h3_, h4_, h5_, h6_, h7_, h8_, h9_, h10_, fun _ => rfl, hI⟩
    intro D d11_ d10_ d9_ d8_ d7_ d6_ d5_ d4_ d3_ d2_ d1_ d0_ x52 x51 x50 x49 x48 x47 x46 x45 x44 x43 x42 x41 w_
    rintro ⟨h0_, h1_, h2_, h3_, h4_, h5_, h6_, h7_, h8_, h9_, h10_, h11_, hI⟩
    obtain rfl := h11_ d11_
    obtain rfl := h10_ d10_
    obtain rfl := h9_ d9_
    obtain rfl := h8_ d8_
    obtain rfl := h7_ d7_
    obtain rfl := h6_ d6_
    obtain rfl := h5_ d5_
    obtain rfl := h4_ d4_
    obtain rfl := h3_ d3_
    obtain rfl := h2_ d2_
    obtain rfl := h1_ d1_
    obtain rfl := h0_ d0_
    clear h0_ h1_ h2_ h3_ h4_ h5_ h6_ h7_ h8_ h9_ h10_ h11_
    refine condV (fun hne => ?_) (fun he' => ?_)
    · exact done hI (by rw [← hrel, hstep]; simp at hne; rw [hne]; rfl)
    · refine r_add (by omega) ?_
      refine ⟨⟨j + 1, hj1, rfl, ?_, hI⟩, by simp [intOf]; omega⟩
      rw [← hrel, hstep]
      simp at he'
      rw [he', Bool.true_and]
  · have : j = ks.length := by omega
    subst this
    refine done hI ?_
    rw [← hrel, List.drop_length, hle, List.drop_length]
    rfl

end Go.Proofs.Ytnoieadimkgjcaa
