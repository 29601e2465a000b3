/- The variables of terms, on both sides: lists of numbers that grow. -/
import Derived.Test.YtnoieadimkgjcaaLend
namespace Go.Proofs.Ytnoieadimkgjcaa
open Go Go.RowKit
attribute [local irreducible] Run CondV GuardV LoadV

mutual
def varsT : T → List Int → List Int
  | .mk k n _ ks, l => varsL ks (if k = 1 then addI l n else l)
def varsL : List T → List Int → List Int
  | [], l => l
  | t :: ts, l => varsL ts (varsT t l)
end
mutual
def svarsT : T → List Int → List Int
  | .mk k n _ ks, l => if k = 1 then addI l n else svarsL ks l
def svarsL : List T → List Int → List Int
  | [], l => l
  | t :: ts, l => svarsL ts (svarsT t l)
end
mutual
theorem varsT_le : ∀ (t : T) (l : List Int), ((varsT t l).length : Int) ≤ l.length + cntT t
  | .mk k n s ks, l => by
    rw [varsT, show cntT (T.mk k n s ks) = 1 + cntL ks from rfl]
    have h1 := addI_le l n
    have := varsL_le ks (if k = 1 then addI l n else l)
    split at this <;> rename_i hk <;> simp only [hk, if_true, if_false] at this ⊢ <;> omega
theorem varsL_le : ∀ (ts : List T) (l : List Int), ((varsL ts l).length : Int) ≤ l.length + cntL ts
  | [], l => by simp [varsL, cntL]
  | t :: ts, l => by
    rw [varsL, show cntL (t :: ts) = cntT t + cntL ts from rfl]
    have := varsT_le t l
    have := varsL_le ts (varsT t l)
    omega
end
mutual
theorem svarsT_le : ∀ (t : T) (l : List Int), ((svarsT t l).length : Int) ≤ l.length + cntT t
  | .mk k n s ks, l => by
    rw [svarsT, show cntT (T.mk k n s ks) = 1 + cntL ks from rfl]
    have h1 := addI_le l n
    have := cntL_pos ks
    split
    · omega
    · have := svarsL_le ks l
      omega
theorem svarsL_le : ∀ (ts : List T) (l : List Int), ((svarsL ts l).length : Int) ≤ l.length + cntL ts
  | [], l => by simp [svarsL, cntL]
  | t :: ts, l => by
    rw [svarsL, show cntL (t :: ts) = cntT t + cntL ts from rfl]
    have := svarsT_le t l
    have := svarsL_le ts (svarsT t l)
    omega
end
/- on valid terms the two are one -/
mutual
theorem vars_eqT : ∀ (t : T) (d : Int) (l : List Int), shapeT t d = true → svarsT t l = varsT t l
  | .mk k n s ks, d, l, h => by
    rw [shapeT] at h
    split at h
    · cases h
    · rw [Bool.and_eq_true] at h
      rw [svarsT, varsT]
      split
      · rw [own_kids h.1 (.inl ‹k = 1›)]; rfl
      · exact vars_eqL ks (d - 1) l h.2
theorem vars_eqL : ∀ (ts : List T) (d : Int) (l : List Int), shapeL ts d = true → svarsL ts l = varsL ts l
  | [], d, l, h => rfl
  | t :: ts, d, l, h => by
    rw [shapeL, Bool.and_eq_true] at h
    rw [svarsL, varsL, vars_eqT t d l h.1]
    exact vars_eqL ts d _ h.2
end
theorem valid_shape {t : T} (h : validB t = true) : shapeT t 30 = true := by
  rw [validB, Bool.and_eq_true] at h
  exact h.1
abbrev PostV (S : Store) (r : List Int) : Value → List Item → Store → Prop := fun v I' S' => I' = [rowI v r] ∧ S' = S

theorem l1Vars_calls : ∀ (t : T) (S : Store) (cs : List Value) (v : Value) (l : List Int), RdT S cs t → l.length + cntT t ≤ 1000000000 → Tri Try.prog n_s_l1Vars [v, .agg cs.toArray] [rowI v l] S (PostV S (svarsT t l)) := by
  refine T.ind fun k n s ks ih S cs v l h hl => ?_
  intro w hI
  obtain ⟨kv, rfl, _, _, hs, hks⟩ := RdT.iff.1 h
  simp only [T.name, T.kids, T.kind, T.n] at hs hks ⊢
  have hlen := hks.le
  simp only [maxLen] at hlen
  rw [show cntT (T.mk k n s ks) = 1 + cntL ks from rfl] at hl
  have hcp := cntL_pos ks
  have hend : ∀ {w' : World} {v' : Value} {b : Nat} {o : Obj} (r : List Int), Inv w (feet [rowI v l]) [.blk b o, rowI v' r] S w' → r = svarsT (.mk k n s ks) l →
      ∃ v'' I' S', Ending.returned v' = .returned v'' ∧ Inv w (feet [rowI v l]) I' S' w' ∧ Ext w.heap.size (feet [rowI v l]) S S' ∧ PostV S (svarsT (.mk k n s ks) l) v'' I' S' := by
    intro w' v' b o r h1 h2
    subst h2
    exact ⟨_, _, _, rfl, h1.pick [false, true], Ext.refl _ _ _, rfl, rfl⟩
  refine calls_s_l1Vars ?_
  unfold sh_s_l1Vars
  refine r_box hI fun b3 w' hI => ?_
  have hI := hI.perm (M := [.blk b3 (.cells #[.int .i64 k, .int .i64 n, .string s, kv] t_iTerm), rowI v l]) (List.Perm.swap _ _ _)
  refine r_fieldL hI 0 rfl fo_iTerm_0 sc_int rfl ?_
  refine r_eql ?_
  refine condP (fun hk => ?_) (fun hk => ?_)
  · have hr : addI l n = svarsT (.mk k n s ks) l := by rw [svarsT, if_pos hk]
    obtain ⟨S1, hle, hrd, hI, hback⟩ := Inv.lend (A := [_]) hI
    have hrd := hrd.ints
    refine ⟨fun i w' => ∃ j : Nat, j ≤ l.length ∧ i = .int .i64 j ∧ hasI (l.drop j) n = hasI l n ∧ Inv w (feet [rowI v l]) [.blk b3 (.cells #[.int .i64 k, .int .i64 n, .string s, kv] t_iTerm)] S1 w',
      fun i _ => l.length - (intOf i).toNat, ⟨0, Nat.zero_le _, rfl, rfl, hI⟩, ?_⟩
    intro t5 _ _ _ _ t22 t21 t20 t19 t18 t17 t16 _ _ _ _ w'
    rintro ⟨j, hj, rfl, hrel, hI⟩
    refine r_lenSl hrd sl_Sint ?_
    refine r_lss ?_
    refine condP (fun hji => ?_) (fun hji => ?_)
    · have hj' : j < l.length := by omega
      have hstep : hasI (l.drop j) n = (decide (n = l[j]) || hasI (l.drop (j + 1)) n) := any_drop _ l j hj'
      obtain ⟨b, o, cap, c, E, fz, rfl, hS, hR⟩ := hrd.at_ hj'
      refine ⟨fun D x22 x21 x20 x19 x18 x17 x16 w_ => (D 0 = true → x16 = .slice (some ⟨b, o, none⟩) l.length cap) ∧ (D 1 = true → x17 = .int .i64 j) ∧ (D 2 = true → x18 = .pointer (some ⟨b, o + j * 1, none⟩)) ∧ (D 3 = true → x19 = .int .i64 l[j]) ∧ (D 4 = true → x20 = .pointer (some ⟨b3, 1, none⟩)) ∧ (D 5 = true → x21 = .int .i64 n) ∧ (D 6 = true → x22 = .bool (decide (l[j] = n))) ∧ Inv w (feet [rowI (.slice (some ⟨b, o, none⟩) l.length cap) l]) [.blk b3 (.cells #[.int .i64 k, .int .i64 n, .string s, kv] t_iTerm)] S1 w_, ⟨fun h => Bool.noConfusion h, fun h => Bool.noConfusion h, fun h => Bool.noConfusion h, fun h => Bool.noConfusion h, fun h => Bool.noConfusion h, fun h => Bool.noConfusion h, fun h => Bool.noConfusion h, hI.draw⟩, ⟨?_, ?_, ?_, ?_, ?_, ?_, ?_, trivial⟩, ?_⟩
      · intro D hD_  x22 x21 x20 x19 x18 x17 x16 w_
        rintro ⟨h0_, h1_, h2_, h3_, h4_, h5_, h6_, hI⟩
        exact ⟨fun _ => rfl, h1_, h2_, h3_, h4_, h5_, h6_, hI⟩
      · intro D hD_  x22 x21 x20 x19 x18 x17 x16 w_
        rintro ⟨h0_, h1_, h2_, h3_, h4_, h5_, h6_, hI⟩
        exact ⟨h0_, fun _ => rfl, h2_, h3_, h4_, h5_, h6_, hI⟩
      · intro D hD_ d0_0 d1_1 x22 x21 x20 x19 x18 x17 x16 w_
        rintro ⟨h0_, h1_, h2_, h3_, h4_, h5_, h6_, hI⟩
        obtain rfl := h0_ d0_0
        obtain rfl := h1_ d1_1
        refine r_indexAddr sl_Sint hj' ?_
        exact ⟨h0_, h1_, fun _ => rfl, h3_, h4_, h5_, h6_, hI⟩
      · intro D hD_ d2_0 x22 x21 x20 x19 x18 x17 x16 w_
        rintro ⟨h0_, h1_, h2_, h3_, h4_, h5_, h6_, hI⟩
        obtain rfl := h2_ d2_0
        refine r_load sc_int (by rw [hI.cellS hS]; exact cellsAt_get hR 0 _ rfl) ?_
        exact ⟨h0_, h1_, h2_, fun _ => rfl, h4_, h5_, h6_, hI⟩
      · intro D hD_  x22 x21 x20 x19 x18 x17 x16 w_
        rintro ⟨h0_, h1_, h2_, h3_, h4_, h5_, h6_, hI⟩
        refine r_field fo_iTerm_1 ?_
        exact ⟨h0_, h1_, h2_, h3_, fun _ => rfl, h5_, h6_, hI⟩
      · intro D hD_ d4_0 x22 x21 x20 x19 x18 x17 x16 w_
        rintro ⟨h0_, h1_, h2_, h3_, h4_, h5_, h6_, hI⟩
        obtain rfl := h4_ d4_0
        refine r_loadL hI 0 sc_int rfl rfl ?_
        exact ⟨h0_, h1_, h2_, h3_, h4_, fun _ => rfl, h6_, hI⟩
      · intro D hD_ d3_0 d5_1 x22 x21 x20 x19 x18 x17 x16 w_
        rintro ⟨h0_, h1_, h2_, h3_, h4_, h5_, h6_, hI⟩
        obtain rfl := h3_ d3_0
        obtain rfl := h5_ d5_1
        refine r_eql ?_
        exact ⟨h0_, h1_, h2_, h3_, h4_, h5_, fun _ => rfl, hI⟩
      intro D d6_ d5_ d4_ d3_ d2_ d1_ d0_ x22 x21 x20 x19 x18 x17 x16 w_
      rintro ⟨h0_, h1_, h2_, h3_, h4_, h5_, h6_, hI⟩
      obtain rfl := h6_ d6_
      obtain rfl := h5_ d5_
      obtain rfl := h4_ d4_
      obtain rfl := h3_ d3_
      obtain rfl := h2_ d2_
      obtain rfl := h1_ d1_
      obtain rfl := h0_ d0_
      clear h0_ h1_ h2_ h3_ h4_ h5_ h6_
      refine condP (fun he => ?_) (fun he => ?_)
      · refine hend l (hback _ _ hI) ?_
        rw [← hr, addI, if_pos (by rw [← hrel, hstep, decide_eq_true he.symm]; rfl)]
      · refine r_add (by omega) ?_
        exact ⟨⟨j + 1, hj', rfl, by rw [← hrel, hstep, decide_eq_false (fun e => he e.symm)]; rfl, hI⟩, by simp [intOf]; omega⟩
    · have : j = l.length := by omega
      subst this
      have hno : hasI l n = false := by rw [← hrel, List.drop_length]; rfl
      have hI : Inv w (feet [rowI v l]) [.blk b3 (.cells #[.int .i64 k, .int .i64 n, .string s, kv] t_iTerm), rowI v l] S _ := hback _ _ hI
      refine r_fieldL hI 0 rfl fo_iTerm_1 sc_int rfl ?_
      refine r_slice1 hI mk_Sint rfl (by omega) (by omega) fun b w' hI => ?_
      refine r_append hI 1 (k := 1) [.int .i64 n] mk_Sint (by omega) rfl rfl ?_ ?_ (by omega) (by omega) fun v' w' hI => ?_
      · intro j u hj
        rw [hI.cellL (i := 2) rfl]
        match j with
        | 0 => simpa [Value.cells] using hj
        | j + 1 => simp at hj
      · simp [Value.oneCell']
      · rw [ints_snoc] at hI
        have hI := hI.pick [true, true, false]
        refine hend (b := b3) (o := .cells #[.int .i64 k, .int .i64 n, .string s, kv] t_iTerm) (l ++ [n]) ?_ ?_
        · have e : Item.row v' t_int 1 (l.length + 1) (ints (l ++ [n])) = rowI v' (l ++ [n]) := by simp [rowI]
          exact e ▸ hI
        · rw [← hr, addI, if_neg (by rw [hno]; decide)]
  · have hr : svarsL ks l = svarsT (.mk k n s ks) l := by rw [svarsT, if_neg hk]
    refine ⟨fun i t w' => ∃ (j : Nat) (l' : List Int), j ≤ ks.length ∧ i = .int .i64 j ∧ svarsL (ks.drop j) l' = svarsL ks l ∧ l'.length + cntL (ks.drop j) ≤ 1000000000 ∧ Inv w (feet [rowI v l]) [.blk b3 (.cells #[.int .i64 k, .int .i64 n, .string s, kv] t_iTerm), rowI t l'] S w',
      fun i _ _ => ks.length - (intOf i).toNat, ⟨0, l, Nat.zero_le _, rfl, rfl, by rw [List.drop_zero]; omega, hI⟩, ?_⟩
    intro t6 _ _ t0 _ _ _ _ _ _ _ _ _ _ _ _ w'
    rintro ⟨j, l', hj, rfl, hrel, hl', hI⟩
    refine r_fieldL hI 0 rfl fo_iTerm_3 sc_SiTerm rfl ?_
    refine r_lenSl hks sl_SiTerm ?_
    refine r_lss ?_
    refine condP (fun hji => ?_) (fun hji => ?_)
    · have hj' : j < ks.length := by omega
      rw [cntL_split ks j hj'] at hl'
      rw [List.drop_eq_getElem_cons hj', svarsL] at hrel
      have hc1 := cntL_pos (ks.drop (j + 1))
      have hc2 := svarsT_le ks[j] l'
      refine r_fieldL hI 0 rfl fo_iTerm_3 sc_SiTerm rfl ?_
      refine r_elem hI hks sl_SiTerm ag_iTerm hj' (fun _ _ => RdT.length) fun cs' hcs' => ?_
      refine Run.call (A := [_]) fn_s_l1Vars nm_s_l1Vars hI (ih _ (List.getElem_mem hj') S cs' t0 l' hcs' (by omega)) fun v' I' S' w' => ?_
      rintro ⟨rfl, rfl⟩ _ hI
      refine r_add (by omega) ?_
      exact ⟨⟨j + 1, _, hj', rfl, hrel, by omega, hI⟩, by simp [intOf]; omega⟩
    · have : j = ks.length := by omega
      subst this
      rw [List.drop_length, svarsL] at hrel
      exact hend l' hI (by rw [hrel, hr])

theorem addVars_calls : ∀ (t : T) (S : Store) (cs : List Value) (v : Value) (l : List Int), RdT S cs t → l.length + cntT t ≤ 1000000000 → Tri Try.prog n_i_addVars [.agg cs.toArray, v] [rowI v l] S (PostV S (varsT t l)) := by
  refine T.ind fun k n s ks ih S cs v l h hl => ?_
  intro w hI
  obtain ⟨kv, rfl, _, _, hs, hks⟩ := RdT.iff.1 h
  simp only [T.name, T.kids, T.kind, T.n] at hs hks ⊢
  have hlen := hks.le
  simp only [maxLen] at hlen
  rw [show cntT (T.mk k n s ks) = 1 + cntL ks from rfl] at hl
  have hcp := cntL_pos ks
  have hal := addI_le l n
  refine calls_i_addVars ?_
  unfold sh_i_addVars
  refine r_box hI fun b2 w' hI => ?_
  have hI := hI.perm (M := [.blk b2 (.cells #[.int .i64 k, .int .i64 n, .string s, kv] t_iTerm), rowI v l]) (List.Perm.swap _ _ _)
  refine ⟨fun t w' => Inv w (feet [rowI v l]) [.blk b2 (.cells #[.int .i64 k, .int .i64 n, .string s, kv] t_iTerm), rowI t (if k = 1 then addI l n else l)] S w', ?_, ?_⟩
  · refine ⟨fun t w' => t = .bool (decide (k = 1) && !hasI l n) ∧ Inv w (feet [rowI v l]) [.blk b2 (.cells #[.int .i64 k, .int .i64 n, .string s, kv] t_iTerm), rowI v l] S w', ?_, ?_⟩
    · refine r_fieldL hI 0 rfl fo_iTerm_0 sc_int rfl ?_
      refine r_eql ?_
      cases h1 : decide (k = 1)
      · repeat (first | refine guard_true ?_ | refine guard_ne (by decide) ?_ | refine guard_undef ?_ | refine r_pickT ?_ | refine r_pickF ?_)
        exact ⟨rfl, hI⟩
      · repeat (first | refine guard_true ?_ | refine guard_ne (by decide) ?_ | refine guard_undef ?_ | refine r_pickT ?_ | refine r_pickF ?_)
        refine r_fieldL hI 0 rfl fo_iTerm_1 sc_int rfl ?_
        obtain ⟨S1, hle, hrd, hI, hback⟩ := Inv.lend (A := [_]) hI
        refine Run.callPure fn_x_Contains_int nm_x_Contains_int hI (Contains_int_calls n hrd.ints) fun w' hI => ?_
        refine r_not ?_
        repeat (first | refine guard_true ?_ | refine guard_ne (by decide) ?_ | refine guard_undef ?_ | refine r_pickT ?_ | refine r_pickF ?_)
        exact ⟨rfl, hback _ _ hI⟩
    intro t16 _ _ _ _ _ _ _ _ _ w'
    rintro ⟨rfl, hI⟩
    refine condV (fun hb => ?_) (fun hb => ?_)
    · simp only [Bool.and_eq_true, decide_eq_true_eq, Bool.not_eq_true'] at hb
      refine r_fieldL hI 0 rfl fo_iTerm_1 sc_int rfl ?_
      refine r_slice1 hI mk_Sint rfl (by omega) (by omega) fun b w' hI => ?_
      refine r_append hI 1 (k := 1) [.int .i64 n] mk_Sint (by omega) rfl rfl ?_ ?_ (by omega) (by omega) fun v' w' hI => ?_
      · intro j u hj
        rw [hI.cellL (i := 2) rfl]
        match j with
        | 0 => simpa [Value.cells] using hj
        | j + 1 => simp at hj
      · simp [Value.oneCell']
      · rw [ints_snoc] at hI
        have hI := hI.pick [true, true, false]
        rw [if_pos hb.1, addI, if_neg (by rw [hb.2]; decide)]
        have e : Item.row v' t_int 1 (l.length + 1) (ints (l ++ [n])) = rowI v' (l ++ [n]) := by simp [rowI]
        rw [show List.length l + 1 = l.length + 1 from rfl, e] at hI
        exact hI
    · have : (if k = 1 then addI l n else l) = l := by
        split
        · rename_i hk
          rw [addI]
          simp [hk] at hb
          rw [if_pos hb]
        · rfl
      rw [this]
      exact hI
  intro t1 _ _ _ _ _ _ _ _ _ _ _ _ _ _ _ w' hI
  have hl1 : ((if k = 1 then addI l n else l).length : Int) + cntL ks ≤ 1000000000 := by split <;> omega
  rw [show varsT (.mk k n s ks) l = varsL ks (if k = 1 then addI l n else l) from by rw [varsT]]
  generalize (if k = 1 then addI l n else l) = l1 at hI hl1 ⊢
  refine r_fieldL hI 0 rfl fo_iTerm_3 sc_SiTerm rfl ?_
  refine r_lenSl hks sl_SiTerm ?_
  refine ⟨fun i t w' => ∃ (j : Nat) (l' : List Int), j ≤ ks.length ∧ i = .int .i64 j ∧ varsL (ks.drop j) l' = varsL ks l1 ∧ l'.length + cntL (ks.drop j) ≤ 1000000000 ∧ Inv w (feet [rowI v l]) [.blk b2 (.cells #[.int .i64 k, .int .i64 n, .string s, kv] t_iTerm), rowI t l'] S w',
    fun i _ _ => ks.length - (intOf i).toNat, ⟨0, l1, Nat.zero_le _, rfl, rfl, by rw [List.drop_zero]; omega, hI⟩, ?_⟩
  intro t25 _ t1 _ _ _ _ _ _ _ w'
  rintro ⟨j, l', hj, rfl, hrel, hl', hI⟩
  refine r_lss ?_
  refine condP (fun hji => ?_) (fun hji => ?_)
  · have hj' : j < ks.length := by omega
    rw [cntL_split ks j hj'] at hl'
    rw [List.drop_eq_getElem_cons hj', varsL] at hrel
    have hc1 := cntL_pos (ks.drop (j + 1))
    have hc2 := varsT_le ks[j] l'
    refine r_elem hI hks sl_SiTerm ag_iTerm hj' (fun _ _ => RdT.length) fun cs' hcs' => ?_
    have hlc := hcs'.length
    refine r_alloc hI zo_iTerm fun b6 w' hI => ?_
    refine r_storeW hI 2 rfl ag_iTerm (by simpa using hlc) rfl (by simpa using hcs'.one) fun w' hI => ?_
    refine r_loadW hI 2 ag_iTerm rfl (by simpa using hlc) ?_
    have hI := hI.pick [true, true, false]
    refine Run.call (A := [_]) fn_i_addVars nm_i_addVars hI (ih _ (List.getElem_mem hj') S cs' t1 l' hcs' (by omega)) fun v' I' S' w' => ?_
    rintro ⟨rfl, rfl⟩ _ hI
    refine r_add (by omega) ?_
    exact ⟨⟨j + 1, _, hj', rfl, hrel, by omega, hI⟩, by simp [intOf]; omega⟩
  · have : j = ks.length := by omega
    subst this
    rw [List.drop_length, varsL] at hrel
    subst hrel
    exact ⟨_, _, _, rfl, hI.pick [false, true], Ext.refl _ _ _, rfl, rfl⟩
theorem varsOf_calls {ts : List T} {S : Store} {v : Value} (h : RdSl S 4 (RdT S) v ts) (hl : cntL ts ≤ 1000000000) : Tri Try.prog n_i_varsOf [v] [] S (PostV S (varsL ts [])) := by
  intro w hI
  have hlen := h.le
  simp only [maxLen] at hlen
  refine calls_i_varsOf ?_
  unfold sh_i_varsOf
  refine r_lenSl h sl_SiTerm ?_
  refine ⟨fun i t w' => ∃ (j : Nat) (l' : List Int), j ≤ ts.length ∧ i = .int .i64 j ∧ varsL (ts.drop j) l' = varsL ts [] ∧ l'.length + cntL (ts.drop j) ≤ 1000000000 ∧ Inv w [] [rowI t l'] S w',
    fun i _ _ => ts.length - (intOf i).toNat, ⟨0, [], Nat.zero_le _, rfl, rfl, by simpa using hl, hI.rowNil t_int 1⟩, ?_⟩
  intro t8 _ t3 _ _ _ _ _ _ _ w'
  rintro ⟨j, l', hj, rfl, hrel, hl', hI⟩
  refine r_lss ?_
  refine condP (fun hji => ?_) (fun hji => ?_)
  · have hj' : j < ts.length := by omega
    rw [cntL_split ts j hj'] at hl'
    rw [List.drop_eq_getElem_cons hj', varsL] at hrel
    have hc1 := cntL_pos (ts.drop (j + 1))
    have hc2 := varsT_le ts[j] l'
    refine r_elem hI h sl_SiTerm ag_iTerm hj' (fun _ _ => RdT.length) fun cs' hcs' => ?_
    have hlc := hcs'.length
    refine r_alloc hI zo_iTerm fun b6 w' hI => ?_
    refine r_storeW hI 1 rfl ag_iTerm (by simpa using hlc) rfl (by simpa using hcs'.one) fun w' hI => ?_
    refine r_loadW hI 1 ag_iTerm rfl (by simpa using hlc) ?_
    have hI := hI.pick [true, false]
    refine Run.call (A := []) fn_i_addVars nm_i_addVars hI (addVars_calls _ S cs' t3 l' hcs' (by omega)) fun v' I' S' w' => ?_
    rintro ⟨rfl, rfl⟩ _ hI
    refine r_add (by omega) ?_
    exact ⟨⟨j + 1, _, hj', rfl, hrel, by omega, hI⟩, by simp [intOf]; omega⟩
  · have : j = ts.length := by omega
    subst this
    rw [List.drop_length, varsL] at hrel
    subst hrel
    exact ⟨_, _, _, rfl, hI, Ext.refl _ _ _, rfl, rfl⟩

end Go.Proofs.Ytnoieadimkgjcaa
