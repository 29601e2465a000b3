/- Equality of terms and clauses as the laws ask it. -/
import Derived.Test.YtnoieadimkgjcaaTo
namespace Go.Proofs.Ytnoieadimkgjcaa
open Go Go.RowKit
attribute [local irreducible] Run CondV GuardV LoadV

mutual
def eqT : T → T → Bool
  | .mk k n s ks, .mk k' n' s' ks' => decide (k = k') && (decide (n = n') && (decide (s = s') && eqL ks ks'))
def eqL : List T → List T → Bool
  | [], [] => true
  | t :: ts, u :: us => eqT t u && eqL ts us
  | _, _ => false
end
mutual
theorem eqT_iff : ∀ a b : T, eqT a b = true ↔ a = b
  | .mk k n s ks, .mk k' n' s' ks' => by
    simp only [eqT, Bool.and_eq_true, decide_eq_true_eq, eqL_iff ks ks', T.mk.injEq]
theorem eqL_iff : ∀ a b : List T, eqL a b = true ↔ a = b
  | [], [] => by simp [eqL]
  | [], _ :: _ => by simp [eqL]
  | _ :: _, [] => by simp [eqL]
  | t :: ts, u :: us => by
    simp only [eqL, Bool.and_eq_true, eqT_iff t u, eqL_iff ts us, List.cons.injEq]
end
theorem eqL_len : ∀ {a b : List T}, a.length ≠ b.length → eqL a b = false := by
  intro a b h
  rw [← Bool.not_eq_true, eqL_iff]
  rintro rfl
  exact h rfl
def eqC (a b : C) : Bool := eqT a.head b.head && eqL a.body b.body
theorem eqC_iff (a b : C) : eqC a b = true ↔ a = b := by
  cases a; cases b
  simp only [eqC, Bool.and_eq_true, eqT_iff, eqL_iff, C.mk.injEq]
def eqP : List C → List C → Bool
  | [], [] => true
  | t :: ts, u :: us => eqC t u && eqP ts us
  | _, _ => false
theorem eqP_iff : ∀ a b : List C, eqP a b = true ↔ a = b
  | [], [] => by simp [eqP]
  | [], _ :: _ => by simp [eqP]
  | _ :: _, [] => by simp [eqP]
  | t :: ts, u :: us => by simp only [eqP, Bool.and_eq_true, eqC_iff, eqP_iff ts us, List.cons.injEq]
theorem eqP_len : ∀ {a b : List C}, a.length ≠ b.length → eqP a b = false := by
  intro a b h
  rw [← Bool.not_eq_true, eqP_iff]
  rintro rfl
  exact h rfl

theorem sub4 {a b c d e : Value} : ∀ (j : Nat) (v : Value), ([a, b, c, d] : List Value)[j]? = some v → (#[a, b, c, d, e] : Array Value)[0 + j]? = some v
  | 0, _, h | 1, _, h | 2, _, h | 3, _, h => h
  | j + 4, _, h => by simp at h

theorem eqTermS_of {xs : List T} (ih : ∀ t ∈ xs, ∀ (u : T) (S : Store) (cs ds : List Value), RdT S cs t → RdT S ds u → Pure Try.prog n_l_eqTerm [.agg cs.toArray, .agg ds.toArray] S (.bool (eqT t u)))
    {ys : List T} {S : Store} {v u : Value} (h : RdSl S 4 (RdT S) v xs) (h' : RdSl S 4 (RdT S) u ys) : Pure Try.prog n_l_eqTermS [v, u] S (.bool (eqL xs ys)) := by
  intro w hI
  have hlen : (xs.length : Int) ≤ 9223372036854775807 := by have := h.le; simp only [maxLen] at this; omega
  refine calls_l_eqTermS ?_
  unfold sh_l_eqTermS
  refine r_lenSl h sl_SiTerm ?_
  refine r_lenSl h' sl_SiTerm ?_
  refine r_neq ?_
  refine condV (fun hne => ?_) (fun he => ?_)
  · exact done hI (by rw [eqL_len (by simp at hne; omega)])
  have he : xs.length = ys.length := by simp at he; omega
  refine ⟨fun i w' => ∃ (k : Nat), k ≤ xs.length ∧ i = .int .i64 k ∧ eqL (xs.drop k) (ys.drop k) = eqL xs ys ∧ Inv w [] [] S w', fun i _ => xs.length - (intOf i).toNat, ⟨0, Nat.zero_le _, rfl, rfl, hI⟩, ?_⟩
  intro t5 _ _ _ _ _ _ _ _ _ _ _ _ _ _ _ _ _ w'
  rintro ⟨k, hk, rfl, hrel, hI⟩
  refine r_lenSl h sl_SiTerm ?_
  refine r_lss ?_
  refine condP (fun hki => ?_) (fun hki => ?_)
  · have hk1 : k < xs.length := by omega
    have hk2 : k < ys.length := by omega
    obtain ⟨b1, o1, cap1, c1, E1, fz1, rfl, hS1, hR1⟩ := h.at_ hk1
    obtain ⟨b2, o2, cap2, c2, E2, fz2, rfl, hS2, hR2⟩ := h'.at_ hk2
    have hstep : eqL (xs.drop k) (ys.drop k) = (eqT xs[k] ys[k] && eqL (xs.drop (k + 1)) (ys.drop (k + 1))) := by
      rw [List.drop_eq_getElem_cons hk1, List.drop_eq_getElem_cons hk2, eqL]
    refine ⟨fun D x26 x25 x24 x23 x22 x21 x20 x19 x18 x17 w_ => (D 0 = true → x17 = .slice (some ⟨b1, o1, none⟩) xs.length cap1) ∧ (D 1 = true → x18 = .int .i64 k) ∧ (D 2 = true → x19 = .pointer (some ⟨b1, o1 + k * 4, none⟩)) ∧ (D 3 = true → x20 = .agg (cellsAt c1 (o1 + k * 4) 4).toArray) ∧ (D 4 = true → x21 = .slice (some ⟨b2, o2, none⟩) ys.length cap2) ∧ (D 5 = true → x22 = .int .i64 k) ∧ (D 6 = true → x23 = .pointer (some ⟨b2, o2 + k * 4, none⟩)) ∧ (D 7 = true → x24 = .agg (cellsAt c2 (o2 + k * 4) 4).toArray) ∧ (D 8 = true → x25 = .bool (eqT xs[k] ys[k])) ∧ (D 9 = true → x26 = .bool (!eqT xs[k] ys[k])) ∧ Inv w [] [] S w_, ⟨fun h => Bool.noConfusion h, fun h => Bool.noConfusion h, fun h => Bool.noConfusion h, fun h => Bool.noConfusion h, fun h => Bool.noConfusion h, fun h => Bool.noConfusion h, fun h => Bool.noConfusion h, fun h => Bool.noConfusion h, fun h => Bool.noConfusion h, fun h => Bool.noConfusion h, hI.draw⟩, ⟨?_, ?_, ?_, ?_, ?_, ?_, ?_, ?_, ?_, ?_, trivial⟩, ?_⟩
    · intro D hD_  x26 x25 x24 x23 x22 x21 x20 x19 x18 x17 w_
      rintro ⟨h0_, h1_, h2_, h3_, h4_, h5_, h6_, h7_, h8_, h9_, hI⟩
      exact ⟨fun _ => rfl, h1_, h2_, h3_, h4_, h5_, h6_, h7_, h8_, h9_, hI⟩
    · intro D hD_  x26 x25 x24 x23 x22 x21 x20 x19 x18 x17 w_
      rintro ⟨h0_, h1_, h2_, h3_, h4_, h5_, h6_, h7_, h8_, h9_, hI⟩
      exact ⟨h0_, fun _ => rfl, h2_, h3_, h4_, h5_, h6_, h7_, h8_, h9_, hI⟩
    · intro D hD_ d0_0 d1_1 x26 x25 x24 x23 x22 x21 x20 x19 x18 x17 w_
      rintro ⟨h0_, h1_, h2_, h3_, h4_, h5_, h6_, h7_, h8_, h9_, hI⟩
      obtain rfl := h0_ d0_0
      obtain rfl := h1_ d1_1
      refine r_indexAddr sl_SiTerm hk1 ?_
      exact ⟨h0_, h1_, fun _ => rfl, h3_, h4_, h5_, h6_, h7_, h8_, h9_, hI⟩
    · intro D hD_ d2_0 x26 x25 x24 x23 x22 x21 x20 x19 x18 x17 w_
      rintro ⟨h0_, h1_, h2_, h3_, h4_, h5_, h6_, h7_, h8_, h9_, hI⟩
      obtain rfl := h2_ d2_0
      refine r_loadA ag_iTerm hR1.length (fun j v hj => by rw [hI.cellS hS1]; exact cellsAt_get rfl j v hj) ?_
      exact ⟨h0_, h1_, h2_, fun _ => rfl, h4_, h5_, h6_, h7_, h8_, h9_, hI⟩
    · intro D hD_  x26 x25 x24 x23 x22 x21 x20 x19 x18 x17 w_
      rintro ⟨h0_, h1_, h2_, h3_, h4_, h5_, h6_, h7_, h8_, h9_, hI⟩
      exact ⟨h0_, h1_, h2_, h3_, fun _ => rfl, h5_, h6_, h7_, h8_, h9_, hI⟩
    · intro D hD_  x26 x25 x24 x23 x22 x21 x20 x19 x18 x17 w_
      rintro ⟨h0_, h1_, h2_, h3_, h4_, h5_, h6_, h7_, h8_, h9_, hI⟩
      exact ⟨h0_, h1_, h2_, h3_, h4_, fun _ => rfl, h6_, h7_, h8_, h9_, hI⟩
    · intro D hD_ d4_0 d5_1 x26 x25 x24 x23 x22 x21 x20 x19 x18 x17 w_
      rintro ⟨h0_, h1_, h2_, h3_, h4_, h5_, h6_, h7_, h8_, h9_, hI⟩
      obtain rfl := h4_ d4_0
      obtain rfl := h5_ d5_1
      refine r_indexAddr sl_SiTerm hk2 ?_
      exact ⟨h0_, h1_, h2_, h3_, h4_, h5_, fun _ => rfl, h7_, h8_, h9_, hI⟩
    · intro D hD_ d6_0 x26 x25 x24 x23 x22 x21 x20 x19 x18 x17 w_
      rintro ⟨h0_, h1_, h2_, h3_, h4_, h5_, h6_, h7_, h8_, h9_, hI⟩
      obtain rfl := h6_ d6_0
      refine r_loadA ag_iTerm hR2.length (fun j v hj => by rw [hI.cellS hS2]; exact cellsAt_get rfl j v hj) ?_
      exact ⟨h0_, h1_, h2_, h3_, h4_, h5_, h6_, fun _ => rfl, h8_, h9_, hI⟩
    · intro D hD_ d3_0 d7_1 x26 x25 x24 x23 x22 x21 x20 x19 x18 x17 w_
      rintro ⟨h0_, h1_, h2_, h3_, h4_, h5_, h6_, h7_, h8_, h9_, hI⟩
      obtain rfl := h3_ d3_0
      obtain rfl := h7_ d7_1
      refine Run.callPure fn_l_eqTerm nm_l_eqTerm hI (ih _ (List.getElem_mem hk1) _ S _ _ hR1 hR2) fun w_ hI => ?_
      exact ⟨h0_, h1_, h2_, h3_, h4_, h5_, h6_, h7_, fun _ => rfl, h9_, hI⟩
    · intro D hD_ d8_0 x26 x25 x24 x23 x22 x21 x20 x19 x18 x17 w_
      rintro ⟨h0_, h1_, h2_, h3_, h4_, h5_, h6_, h7_, h8_, h9_, hI⟩
      obtain rfl := h8_ d8_0
      refine r_not ?_
      exact ⟨h0_, h1_, h2_, h3_, h4_, h5_, h6_, h7_, h8_, fun _ => rfl, hI⟩
    intro D d9_ d8_ d7_ d6_ d5_ d4_ d3_ d2_ d1_ d0_ x26 x25 x24 x23 x22 x21 x20 x19 x18 x17 w_
    rintro ⟨h0_, h1_, h2_, h3_, h4_, h5_, h6_, h7_, h8_, h9_, hI⟩
    obtain rfl := h9_ d9_
    obtain rfl := h8_ d8_
    obtain rfl := h7_ d7_
    obtain rfl := h6_ d6_
    obtain rfl := h5_ d5_
    obtain rfl := h4_ d4_
    obtain rfl := h3_ d3_
    obtain rfl := h2_ d2_
    obtain rfl := h1_ d1_
    obtain rfl := h0_ d0_
    clear h0_ h1_ h2_ h3_ h4_ h5_ h6_ h7_ h8_ h9_
    refine condV (fun hne => ?_) (fun he' => ?_)
    · exact done hI (by rw [← hrel, hstep]; simp at hne; rw [hne]; rfl)
    · refine r_add (by omega) ?_
      refine ⟨⟨k + 1, hk1, rfl, ?_, hI⟩, by simp [intOf]; omega⟩
      rw [← hrel, hstep]
      simp at he'
      rw [he', Bool.true_and]
  · have : k = xs.length := by omega
    subst this
    refine done hI ?_
    rw [← hrel, List.drop_length, he, List.drop_length]
    rfl
theorem eqTerm_calls : ∀ (t u : T) (S : Store) (cs ds : List Value), RdT S cs t → RdT S ds u → Pure Try.prog n_l_eqTerm [.agg cs.toArray, .agg ds.toArray] S (.bool (eqT t u)) := by
  refine T.ind fun k n s ks ih u S cs ds h h' => ?_
  intro w hI
  obtain ⟨kv, rfl, _, _, _, hks⟩ := RdT.iff.1 h
  obtain ⟨kv', rfl, _, _, _, hks'⟩ := RdT.iff.1 h'
  obtain ⟨k', n', s', ks'⟩ := u
  simp only [T.name, T.kids, T.kind, T.n] at hks hks' ⊢
  refine calls_l_eqTerm ?_
  unfold sh_l_eqTerm
  refine r_box hI fun b1 w' hI => ?_
  refine r_box hI fun b2 w' hI => ?_
  refine r_fieldL hI 0 rfl fo_iTerm_0 sc_int rfl ?_
  refine r_fieldL hI 1 rfl fo_iTerm_0 sc_int rfl ?_
  refine r_neq ?_
  refine condV (fun hne => done hI ?_) (fun e1 => ?_)
  · simp at hne; simp [eqT, hne]
  refine r_fieldL hI 0 rfl fo_iTerm_1 sc_int rfl ?_
  refine r_fieldL hI 1 rfl fo_iTerm_1 sc_int rfl ?_
  refine r_neq ?_
  refine condV (fun hne => done hI ?_) (fun e2 => ?_)
  · simp at hne; simp [eqT, hne]
  refine r_fieldL hI 0 rfl fo_iTerm_2 sc_string rfl ?_
  refine r_fieldL hI 1 rfl fo_iTerm_2 sc_string rfl ?_
  refine r_sneq ?_
  refine condV (fun hne => done hI ?_) (fun e3 => ?_)
  · simp at hne; simp [eqT, hne]
  refine r_fieldL hI 0 rfl fo_iTerm_3 sc_SiTerm rfl ?_
  refine r_fieldL hI 1 rfl fo_iTerm_3 sc_SiTerm rfl ?_
  refine Run.callPure fn_l_eqTermS nm_l_eqTermS hI (eqTermS_of ih hks hks') fun w' hI => ?_
  refine r_not ?_
  simp at e1 e2 e3
  refine condV (fun hne => done hI ?_) (fun e4 => done hI ?_)
  · simp at hne; simp [eqT, hne]
  · simp at e4; simp [eqT, e1, e2, e3, e4]
theorem eqTermS_calls {xs ys : List T} {S : Store} {v u : Value} (h : RdSl S 4 (RdT S) v xs) (h' : RdSl S 4 (RdT S) u ys) : Pure Try.prog n_l_eqTermS [v, u] S (.bool (eqL xs ys)) :=
  eqTermS_of (fun t _ u => eqTerm_calls t u) h h'
theorem eqClause_calls {a b : C} {S : Store} {cs ds : List Value} (h : RdC S cs a) (h' : RdC S ds b) : Pure Try.prog n_l_eqClause [.agg cs.toArray, .agg ds.toArray] S (.bool (eqC a b)) := by
  intro w hI
  obtain ⟨hd, ks, rfl, h1, h2⟩ := h
  obtain ⟨hd', ks', rfl, h1', h2'⟩ := h'
  obtain ⟨kv, rfl, _⟩ := RdT.iff.1 h1
  obtain ⟨kv', rfl, _⟩ := RdT.iff.1 h1'
  refine calls_l_eqClause ?_
  unfold sh_l_eqClause
  refine r_box hI fun b1 w' hI => ?_
  refine r_box hI fun b2 w' hI => ?_
  refine r_field fo_iClause_0 ?_
  refine r_loadLA hI 0 [_, _, _, _] ag_iTerm rfl rfl sub4 ?_
  refine r_field fo_iClause_0 ?_
  refine r_loadLA hI 1 [_, _, _, _] ag_iTerm rfl rfl sub4 ?_
  refine Run.callPure fn_l_eqTerm nm_l_eqTerm hI (eqTerm_calls _ _ S _ _ h1 h1') fun w' hI => ?_
  refine r_not ?_
  refine condV (fun hne => done hI ?_) (fun e1 => ?_)
  · simp at hne; simp [eqC, hne]
  refine r_fieldL hI 0 rfl fo_iClause_1 sc_SiTerm rfl ?_
  refine r_fieldL hI 1 rfl fo_iClause_1 sc_SiTerm rfl ?_
  refine Run.callPure fn_l_eqTermS nm_l_eqTermS hI (eqTermS_calls h2 h2') fun w' hI => ?_
  refine r_not ?_
  simp at e1
  refine condV (fun hne => done hI ?_) (fun e4 => done hI ?_)
  · simp at hne; simp [eqC, hne]
  · simp at e4; simp [eqC, e1, e4]
theorem eqClauseS_calls {xs ys : List C} {S : Store} {v u : Value} (h : RdSl S 5 (RdC S) v xs) (h' : RdSl S 5 (RdC S) u ys) : Pure Try.prog n_l_eqClauseS [v, u] S (.bool (eqP xs ys)) := by
  intro w hI
  have hlen : (xs.length : Int) ≤ 9223372036854775807 := by have := h.le; simp only [maxLen] at this; omega
  refine calls_l_eqClauseS ?_
  unfold sh_l_eqClauseS
  refine r_lenSl h sl_SiClause ?_
  refine r_lenSl h' sl_SiClause ?_
  refine r_neq ?_
  refine condV (fun hne => ?_) (fun he => ?_)
  · exact done hI (by rw [eqP_len (by simp at hne; omega)])
  have he : xs.length = ys.length := by simp at he; omega
  refine ⟨fun i w' => ∃ (k : Nat), k ≤ xs.length ∧ i = .int .i64 k ∧ eqP (xs.drop k) (ys.drop k) = eqP xs ys ∧ Inv w [] [] S w', fun i _ => xs.length - (intOf i).toNat, ⟨0, Nat.zero_le _, rfl, rfl, hI⟩, ?_⟩
  intro t5 _ _ _ _ _ _ _ _ _ _ _ _ _ _ _ _ _ w'
  rintro ⟨k, hk, rfl, hrel, hI⟩
  refine r_lenSl h sl_SiClause ?_
  refine r_lss ?_
  refine condP (fun hki => ?_) (fun hki => ?_)
  · have hk1 : k < xs.length := by omega
    have hk2 : k < ys.length := by omega
    obtain ⟨b1, o1, cap1, c1, E1, fz1, rfl, hS1, hR1⟩ := h.at_ hk1
    obtain ⟨b2, o2, cap2, c2, E2, fz2, rfl, hS2, hR2⟩ := h'.at_ hk2
    have hstep : eqP (xs.drop k) (ys.drop k) = (eqC xs[k] ys[k] && eqP (xs.drop (k + 1)) (ys.drop (k + 1))) := by
      rw [List.drop_eq_getElem_cons hk1, List.drop_eq_getElem_cons hk2, eqP]
    refine ⟨fun D x26 x25 x24 x23 x22 x21 x20 x19 x18 x17 w_ => (D 0 = true → x17 = .slice (some ⟨b1, o1, none⟩) xs.length cap1) ∧ (D 1 = true → x18 = .int .i64 k) ∧ (D 2 = true → x19 = .pointer (some ⟨b1, o1 + k * 5, none⟩)) ∧ (D 3 = true → x20 = .agg (cellsAt c1 (o1 + k * 5) 5).toArray) ∧ (D 4 = true → x21 = .slice (some ⟨b2, o2, none⟩) ys.length cap2) ∧ (D 5 = true → x22 = .int .i64 k) ∧ (D 6 = true → x23 = .pointer (some ⟨b2, o2 + k * 5, none⟩)) ∧ (D 7 = true → x24 = .agg (cellsAt c2 (o2 + k * 5) 5).toArray) ∧ (D 8 = true → x25 = .bool (eqC xs[k] ys[k])) ∧ (D 9 = true → x26 = .bool (!eqC xs[k] ys[k])) ∧ Inv w [] [] S w_, ⟨fun h => Bool.noConfusion h, fun h => Bool.noConfusion h, fun h => Bool.noConfusion h, fun h => Bool.noConfusion h, fun h => Bool.noConfusion h, fun h => Bool.noConfusion h, fun h => Bool.noConfusion h, fun h => Bool.noConfusion h, fun h => Bool.noConfusion h, fun h => Bool.noConfusion h, hI.draw⟩, ⟨?_, ?_, ?_, ?_, ?_, ?_, ?_, ?_, ?_, ?_, trivial⟩, ?_⟩
    · intro D hD_  x26 x25 x24 x23 x22 x21 x20 x19 x18 x17 w_
      rintro ⟨h0_, h1_, h2_, h3_, h4_, h5_, h6_, h7_, h8_, h9_, hI⟩
      exact ⟨fun _ => rfl, h1_, h2_, h3_, h4_, h5_, h6_, h7_, h8_, h9_, hI⟩
    · intro D hD_  x26 x25 x24 x23 x22 x21 x20 x19 x18 x17 w_
      rintro ⟨h0_, h1_, h2_, h3_, h4_, h5_, h6_, h7_, h8_, h9_, hI⟩
      exact ⟨h0_, fun _ => rfl, h2_, h3_, h4_, h5_, h6_, h7_, h8_, h9_, hI⟩
    · intro D hD_ d0_0 d1_1 x26 x25 x24 x23 x22 x21 x20 x19 x18 x17 w_
      rintro ⟨h0_, h1_, h2_, h3_, h4_, h5_, h6_, h7_, h8_, h9_, hI⟩
      obtain rfl := h0_ d0_0
      obtain rfl := h1_ d1_1
      refine r_indexAddr sl_SiClause hk1 ?_
      exact ⟨h0_, h1_, fun _ => rfl, h3_, h4_, h5_, h6_, h7_, h8_, h9_, hI⟩
    · intro D hD_ d2_0 x26 x25 x24 x23 x22 x21 x20 x19 x18 x17 w_
      rintro ⟨h0_, h1_, h2_, h3_, h4_, h5_, h6_, h7_, h8_, h9_, hI⟩
      obtain rfl := h2_ d2_0
      refine r_loadA ag_iClause hR1.length (fun j v hj => by rw [hI.cellS hS1]; exact cellsAt_get rfl j v hj) ?_
      exact ⟨h0_, h1_, h2_, fun _ => rfl, h4_, h5_, h6_, h7_, h8_, h9_, hI⟩
    · intro D hD_  x26 x25 x24 x23 x22 x21 x20 x19 x18 x17 w_
      rintro ⟨h0_, h1_, h2_, h3_, h4_, h5_, h6_, h7_, h8_, h9_, hI⟩
      exact ⟨h0_, h1_, h2_, h3_, fun _ => rfl, h5_, h6_, h7_, h8_, h9_, hI⟩
    · intro D hD_  x26 x25 x24 x23 x22 x21 x20 x19 x18 x17 w_
      rintro ⟨h0_, h1_, h2_, h3_, h4_, h5_, h6_, h7_, h8_, h9_, hI⟩
      exact ⟨h0_, h1_, h2_, h3_, h4_, fun _ => rfl, h6_, h7_, h8_, h9_, hI⟩
    · intro D hD_ d4_0 d5_1 x26 x25 x24 x23 x22 x21 x20 x19 x18 x17 w_
      rintro ⟨h0_, h1_, h2_, h3_, h4_, h5_, h6_, h7_, h8_, h9_, hI⟩
      obtain rfl := h4_ d4_0
      obtain rfl := h5_ d5_1
      refine r_indexAddr sl_SiClause hk2 ?_
      exact ⟨h0_, h1_, h2_, h3_, h4_, h5_, fun _ => rfl, h7_, h8_, h9_, hI⟩
    · intro D hD_ d6_0 x26 x25 x24 x23 x22 x21 x20 x19 x18 x17 w_
      rintro ⟨h0_, h1_, h2_, h3_, h4_, h5_, h6_, h7_, h8_, h9_, hI⟩
      obtain rfl := h6_ d6_0
      refine r_loadA ag_iClause hR2.length (fun j v hj => by rw [hI.cellS hS2]; exact cellsAt_get rfl j v hj) ?_
      exact ⟨h0_, h1_, h2_, h3_, h4_, h5_, h6_, fun _ => rfl, h8_, h9_, hI⟩
    · intro D hD_ d3_0 d7_1 x26 x25 x24 x23 x22 x21 x20 x19 x18 x17 w_
      rintro ⟨h0_, h1_, h2_, h3_, h4_, h5_, h6_, h7_, h8_, h9_, hI⟩
      obtain rfl := h3_ d3_0
      obtain rfl := h7_ d7_1
      refine Run.callPure fn_l_eqClause nm_l_eqClause hI (eqClause_calls hR1 hR2) fun w_ hI => ?_
      exact ⟨h0_, h1_, h2_, h3_, h4_, h5_, h6_, h7_, fun _ => rfl, h9_, hI⟩
    · intro D hD_ d8_0 x26 x25 x24 x23 x22 x21 x20 x19 x18 x17 w_
      rintro ⟨h0_, h1_, h2_, h3_, h4_, h5_, h6_, h7_, h8_, h9_, hI⟩
      obtain rfl := h8_ d8_0
      refine r_not ?_
      exact ⟨h0_, h1_, h2_, h3_, h4_, h5_, h6_, h7_, h8_, fun _ => rfl, hI⟩
    intro D d9_ d8_ d7_ d6_ d5_ d4_ d3_ d2_ d1_ d0_ x26 x25 x24 x23 x22 x21 x20 x19 x18 x17 w_
    rintro ⟨h0_, h1_, h2_, h3_, h4_, h5_, h6_, h7_, h8_, h9_, hI⟩
    obtain rfl := h9_ d9_
    obtain rfl := h8_ d8_
    obtain rfl := h7_ d7_
    obtain rfl := h6_ d6_
    obtain rfl := h5_ d5_
    obtain rfl := h4_ d4_
    obtain rfl := h3_ d3_
    obtain rfl := h2_ d2_
    obtain rfl := h1_ d1_
    obtain rfl := h0_ d0_
    clear h0_ h1_ h2_ h3_ h4_ h5_ h6_ h7_ h8_ h9_
    refine condV (fun hne => ?_) (fun he' => ?_)
    · exact done hI (by rw [← hrel, hstep]; simp at hne; rw [hne]; rfl)
    · refine r_add (by omega) ?_
      refine ⟨⟨k + 1, hk1, rfl, ?_, hI⟩, by simp [intOf]; omega⟩
      rw [← hrel, hstep]
      simp at he'
      rw [he', Bool.true_and]
  · have : k = xs.length := by omega
    subst this
    refine done hI ?_
    rw [← hrel, List.drop_length, he, List.drop_length]
    rfl

end Go.Proofs.Ytnoieadimkgjcaa
