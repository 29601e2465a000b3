/- MovePred: both sides. -/
import Derived.Test.YtnoieadimkgjcaaRowC
import Derived.Test.YtnoieadimkgjcaaPredsOf
namespace Go.Proofs.Ytnoieadimkgjcaa
open Go Go.RowKit
attribute [local irreducible] Run CondV GuardV LoadV

def isP (x : Pd) (c : C) : Bool := eqPd (predT c.head) x
def movedP (p : List C) (x : Pd) : List C := (p.filter fun c => !isP x c) ++ p.filter (isP x)
def movePs (p : List C) (x : Pd) : List C := if progB p = true then movedP p x else []
theorem movedP_w (p : List C) (x : Pd) : (movedP p x).length + wP (movedP p x) = p.length + wP p := by
  have := wP_filter (isP x) p
  rw [movedP, wP_append, List.length_append]
  omega
theorem moved_one {S : Store} {css : List (List Value)} {ys : List C} (h : Rows 5 (RdC S) css ys) : ∀ cs ∈ css, ∀ u ∈ cs, u.oneCell' = true := by
  intro cs hc
  obtain ⟨i, hi, rfl⟩ := List.mem_iff_getElem.1 hc
  exact (h.hR i (by rw [← h.hc]; exact hi) hi).one
theorem s_MovePred_calls {p : List C} {S : Store} {v : Value} (x : Pd) (h : RdSl S 5 (RdC S) v p) (hw : p.length + wP p ≤ 1048576) : Tri Try.prog n_s_MovePred [v, .agg x.cells.toArray] [] S (PostCB S (movePs p x) (progB p)) := by
  intro w hI
  have hmw := movedP_w p x
  obtain ⟨xs, xn⟩ := x
  refine calls_s_MovePred ?_
  unfold sh_s_MovePred
  refine r_box hI fun b3 w' hI => ?_
  refine Run.callPure fn_s_ProgramValid nm_s_ProgramValid hI (s_ProgramValid_calls h (by omega)) fun w' hI => ?_
  refine r_not ?_
  cases hv : progB p
  · refine condV (fun _ => ?_) (fun hb => by cases hb)
    refine r_slice0 hI mk_SiClause fun v0 w' hI => ?_
    rw [movePs, hv, if_neg (by decide)]
    have hI : Inv w [] ([.blk b3 (.cells #[.string xs, .int .i64 xn] t_iPred)] ++ (rowG v0 t_iClause 5 [] :: blks ([] : List Heaplet).flatten)) S w' := hI
    obtain ⟨L, hT, hI⟩ := Inv.rowTree (R := TrC) hI (Grown.nil 5 TrC)
    exact ⟨_, _, _, rfl, hI.sub (List.sublist_append_right _ _), Ext.refl _ _ _, rfl, _, L, rfl, rfl, hT⟩
  refine condV (fun hb => by cases hb) (fun _ => ?_)
  rw [movePs, hv, if_pos rfl]
  refine r_slice0 hI mk_SiClause fun v1 w' hI => ?_
  refine r_slice0 hI mk_SiClause fun v2 w' hI => ?_
  refine ⟨fun i t u w' => ∃ (k : Nat) (c1 c2 : List (List Value)) (l1 l2 : List C), k ≤ p.length ∧ i = .int .i64 k ∧ Rows 5 (RdC S) c1 l1 ∧ Rows 5 (RdC S) c2 l2 ∧
      l1 ++ (p.drop k).filter (fun c => !isP ⟨xs, xn⟩ c) = p.filter (fun c => !isP ⟨xs, xn⟩ c) ∧ l2 ++ (p.drop k).filter (isP ⟨xs, xn⟩) = p.filter (isP ⟨xs, xn⟩) ∧
      Inv w [] [.blk b3 (.cells #[.string xs, .int .i64 xn] t_iPred), rowG t t_iClause 5 c1, rowG u t_iClause 5 c2] S w', fun i _ _ _ => p.length - (intOf i).toNat, ⟨0, [], [], [], [], Nat.zero_le _, rfl, Rows.nil _ _, Rows.nil _ _, rfl, rfl, hI⟩, ?_⟩
  intro t8 _ _ t6 _ _ _ _ _ _ _ t7 _ _ _ _ _ _ _ _ _ _ _ _ _ _ _ _ _ _ _ w'
  rintro ⟨k, c1, c2, l1, l2, hk, rfl, hR1, hR2, hr1, hr2, hI⟩
  have hl1 : l1.length ≤ p.length := by
    have h1 := congrArg List.length hr1
    have h2 := List.length_filter_le (fun c => !isP ⟨xs, xn⟩ c) p
    simp only [List.length_append] at h1
    omega
  have hl2 : l2.length ≤ p.length := by
    have h1 := congrArg List.length hr2
    have h2 := List.length_filter_le (isP ⟨xs, xn⟩) p
    simp only [List.length_append] at h1
    omega
  have hcl1 := hR1.hc
  have hcl2 := hR2.hc
  refine r_lenSl h sl_SiClause ?_
  refine r_lss ?_
  refine condP (fun hki => ?_) (fun hki => ?_)
  · have hk' : k < p.length := by omega
    rw [← filter_snoc _ p k hk' l1] at hr1
    rw [← filter_snoc _ p k hk' l2] at hr2
    refine ⟨fun t u w' => ∃ c1' c2', Rows 5 (RdC S) c1' (if (!isP ⟨xs, xn⟩ p[k]) = true then l1 ++ [p[k]] else l1) ∧ Rows 5 (RdC S) c2' (if isP ⟨xs, xn⟩ p[k] = true then l2 ++ [p[k]] else l2) ∧
        Inv w [] [.blk b3 (.cells #[.string xs, .int .i64 xn] t_iPred), rowG t t_iClause 5 c1', rowG u t_iClause 5 c2'] S w', ?_, ?_⟩
    · have h0 := h
      obtain ⟨b, o, cap, c, E, fz, rfl, hS, hR⟩ := h.at_ hk'
      obtain ⟨hd, ks2, hcs, h1, h2⟩ := hR
      obtain ⟨kv, rfl, _, _, hs1, hk1⟩ := RdT.iff.1 h1
      refine ⟨fun D x28 x27 x26 x25 x24 x23 x22 x21 w_ => (D 0 = true → x21 = .slice (some ⟨b, o, none⟩) p.length cap) ∧ (D 1 = true → x22 = .int .i64 k) ∧ (D 2 = true → x23 = .pointer (some ⟨b, o + k * 5, none⟩)) ∧ (D 3 = true → x24 = .pointer (some ⟨b, o + k * 5, none⟩)) ∧ (D 4 = true → x25 = .agg #[.int .i64 p[k].head.kind, .int .i64 p[k].head.n, .string p[k].head.name, kv]) ∧ (D 5 = true → x26 = .agg #[.string p[k].head.name, .int .i64 p[k].head.kids.length]) ∧ (D 6 = true → x27 = .agg #[.string xs, .int .i64 xn]) ∧ (D 7 = true → x28 = .bool (isP ⟨xs, xn⟩ p[k])) ∧ Inv w [] [.blk b3 (.cells #[.string xs, .int .i64 xn] t_iPred), rowG t6 t_iClause 5 c1, rowG t7 t_iClause 5 c2] S w_, ⟨fun h => Bool.noConfusion h, fun h => Bool.noConfusion h, fun h => Bool.noConfusion h, fun h => Bool.noConfusion h, fun h => Bool.noConfusion h, fun h => Bool.noConfusion h, fun h => Bool.noConfusion h, fun h => Bool.noConfusion h, hI.draw⟩, ⟨?_, ?_, ?_, ?_, ?_, ?_, ?_, ?_, trivial⟩, ?_⟩
      · intro D hD_  x28 x27 x26 x25 x24 x23 x22 x21 w_
        rintro ⟨h0_, h1_, h2_, h3_, h4_, h5_, h6_, h7_, hI⟩
        exact ⟨fun _ => rfl, h1_, h2_, h3_, h4_, h5_, h6_, h7_, hI⟩
      · intro D hD_  x28 x27 x26 x25 x24 x23 x22 x21 w_
        rintro ⟨h0_, h1_, h2_, h3_, h4_, h5_, h6_, h7_, hI⟩
        exact ⟨h0_, fun _ => rfl, h2_, h3_, h4_, h5_, h6_, h7_, hI⟩
      · intro D hD_ d0_0 d1_1 x28 x27 x26 x25 x24 x23 x22 x21 w_
        rintro ⟨h0_, h1_, h2_, h3_, h4_, h5_, h6_, h7_, hI⟩
        obtain rfl := h0_ d0_0
        obtain rfl := h1_ d1_1
        refine r_indexAddr sl_SiClause hk' ?_
        exact ⟨h0_, h1_, fun _ => rfl, h3_, h4_, h5_, h6_, h7_, hI⟩
      · intro D hD_ d2_0 x28 x27 x26 x25 x24 x23 x22 x21 w_
        rintro ⟨h0_, h1_, h2_, h3_, h4_, h5_, h6_, h7_, hI⟩
        obtain rfl := h2_ d2_0
        refine r_field fo_iClause_0 ?_
        exact ⟨h0_, h1_, h2_, fun _ => rfl, h4_, h5_, h6_, h7_, hI⟩
      · intro D hD_ d3_0 x28 x27 x26 x25 x24 x23 x22 x21 w_
        rintro ⟨h0_, h1_, h2_, h3_, h4_, h5_, h6_, h7_, hI⟩
        obtain rfl := h3_ d3_0
        refine r_loadA (cs := [.int .i64 p[k].head.kind, .int .i64 p[k].head.n, .string p[k].head.name, kv]) ag_iTerm rfl (fun j v hj => by rw [hI.cellS hS]; exact cellsAt_get hcs j v (by match j, hj with | 0, hj => exact hj | 1, hj => exact hj | 2, hj => exact hj | 3, hj => exact hj | j + 4, hj => simp at hj)) ?_
        exact ⟨h0_, h1_, h2_, h3_, fun _ => rfl, h5_, h6_, h7_, hI⟩
      · intro D hD_ d4_0 x28 x27 x26 x25 x24 x23 x22 x21 w_
        rintro ⟨h0_, h1_, h2_, h3_, h4_, h5_, h6_, h7_, hI⟩
        obtain rfl := h4_ d4_0
        refine Run.callPure fn_s_l14Of nm_s_l14Of hI (s_l14Of_calls h1) fun w_ hI => ?_
        exact ⟨h0_, h1_, h2_, h3_, h4_, fun _ => rfl, h6_, h7_, hI⟩
      · intro D hD_  x28 x27 x26 x25 x24 x23 x22 x21 w_
        rintro ⟨h0_, h1_, h2_, h3_, h4_, h5_, h6_, h7_, hI⟩
        refine r_loadW hI 0 ag_iPred rfl rfl ?_
        exact ⟨h0_, h1_, h2_, h3_, h4_, h5_, fun _ => rfl, h7_, hI⟩
      · intro D hD_ d5_0 d6_1 x28 x27 x26 x25 x24 x23 x22 x21 w_
        rintro ⟨h0_, h1_, h2_, h3_, h4_, h5_, h6_, h7_, hI⟩
        obtain rfl := h5_ d5_0
        obtain rfl := h6_ d6_1
        refine r_peql ?_
        exact ⟨h0_, h1_, h2_, h3_, h4_, h5_, h6_, fun _ => rfl, hI⟩
      intro D d7_ d6_ d5_ d4_ d3_ d2_ d1_ d0_ x28 x27 x26 x25 x24 x23 x22 x21 w_
      rintro ⟨h0_, h1_, h2_, h3_, h4_, h5_, h6_, h7_, hI⟩
      obtain rfl := h7_ d7_
      obtain rfl := h6_ d6_
      obtain rfl := h5_ d5_
      obtain rfl := h4_ d4_
      obtain rfl := h3_ d3_
      obtain rfl := h2_ d2_
      obtain rfl := h1_ d1_
      obtain rfl := h0_ d0_
      clear h0_ h1_ h2_ h3_ h4_ h5_ h6_ h7_
      refine condV (fun hb => ?_) (fun hb => ?_)
      · refine r_elem hI h0 sl_SiClause ag_iClause hk' (fun _ _ => RdC.length) fun cs hcs => ?_
        refine r_append1 hI 2 cs mk_SiClause (by omega) (by omega) rfl hcs.length hcs.one (by omega) (by omega) fun v' w' hI => ?_
        refine ⟨c1, c2 ++ [cs], ?_, ?_, hI⟩
        · rw [if_neg (by rw [hb]; decide)]; exact hR1
        · rw [if_pos hb]; exact hR2.snoc hcs hcs.length
      · refine r_elem hI h0 sl_SiClause ag_iClause hk' (fun _ _ => RdC.length) fun cs hcs => ?_
        refine r_append1 hI 1 cs mk_SiClause (by omega) (by omega) rfl hcs.length hcs.one (by omega) (by omega) fun v' w' hI => ?_
        refine ⟨c1 ++ [cs], c2, ?_, ?_, hI⟩
        · rw [if_pos (by rw [hb]; rfl)]; exact hR1.snoc hcs hcs.length
        · rw [if_neg (by rw [hb]; decide)]; exact hR2
    · intro t _ _ _ _ _ _ _ u _ _ _ _ _ _ _ _ _ _ _ _ _ _ _ w'
      rintro ⟨c1', c2', hR1, hR2, hI⟩
      refine r_add (by omega) ?_
      exact ⟨⟨k + 1, c1', c2', _, _, hk', rfl, hR1, hR2, hr1, hr2, hI⟩, by simp [intOf]; omega⟩
  · have : k = p.length := by omega
    subst this
    rw [List.drop_length, List.filter_nil, List.append_nil] at hr1 hr2
    refine r_appendRow hI 1 2 mk_SiClause (by omega) rfl rfl hR2.hk (moved_one hR2) (by omega) (by omega) fun v' w' hI => ?_
    have hI : Inv w [] ([] ++ [rowG v' t_iClause 5 (c1 ++ c2)]) S w' := hI.pick [false, true, false]
    obtain ⟨S1, hle, hrd, hI, _⟩ := hI.lend
    have hR := hR1.append hR2
    rw [hr1, hr2] at hR
    have hrr : RdSl S1 5 (RdC S1) v' (movedP p ⟨xs, xn⟩) := (RowRd.rows hR hrd).mono (Sle.refl _) fun _ _ h => h.mono hle
    refine Run.call0 fn_s_l14Copy nm_s_l14Copy hI (l14Copy_calls hrr (by omega)) fun v3 I' S' w' => ?_
    rintro ⟨rfl, L, rfl, hT⟩ _ hI
    exact ⟨_, _, _, rfl, hI.less hle, Ext.refl _ _ _, rfl, _, L, rfl, rfl, hT⟩
theorem i_MovePred_calls {p : List C} {S : Store} {v : Value} (x : Pd) (h : RdSl S 5 (RdC S) v p) (hw : p.length + wP p ≤ 1048576) : Tri Try.prog n_i_MovePred [v, .agg x.cells.toArray] [] S (PostCB S (movePs p x) (progB p)) := by
  intro w hI
  have hmw := movedP_w p x
  obtain ⟨xs, xn⟩ := x
  refine calls_i_MovePred ?_
  unfold sh_i_MovePred
  refine r_box hI fun b3 w' hI => ?_
  refine Run.callPure fn_i_ProgramValid nm_i_ProgramValid hI (iProgramValid_calls h) fun w' hI => ?_
  refine r_not ?_
  cases hv : progB p
  · refine condV (fun _ => ?_) (fun hb => by cases hb)
    rw [movePs, hv, if_neg (by decide)]
    exact ⟨_, _, _, rfl, hI.nil, Ext.refl _ _ _, rfl, _, [], rfl, rfl, TrSl.nil (by simp [maxLen])⟩
  refine condV (fun hb => by cases hb) (fun _ => ?_)
  rw [movePs, hv, if_pos rfl]
  refine r_lenSl h sl_SiClause ?_
  refine ⟨fun i t u w' => ∃ (k : Nat) (c1 c2 : List (List Value)) (l1 l2 : List C), k ≤ p.length ∧ i = .int .i64 k ∧ Rows 5 (RdC S) c1 l1 ∧ Rows 5 (RdC S) c2 l2 ∧
      l1 ++ (p.drop k).filter (fun c => !isP ⟨xs, xn⟩ c) = p.filter (fun c => !isP ⟨xs, xn⟩ c) ∧ l2 ++ (p.drop k).filter (isP ⟨xs, xn⟩) = p.filter (isP ⟨xs, xn⟩) ∧
      Inv w [] [.blk b3 (.cells #[.string xs, .int .i64 xn] t_iPred), rowG t t_iClause 5 c1, rowG u t_iClause 5 c2] S w', fun i _ _ _ => p.length - (intOf i).toNat, ⟨0, [], [], [], [], Nat.zero_le _, rfl, Rows.nil _ _, Rows.nil _ _, rfl, rfl, (hI.rowNil t_iClause 5).rowNil t_iClause 5⟩, ?_⟩
  intro t15 _ t6 _ _ _ _ t7 _ _ _ _ _ _ _ _ _ _ _ _ _ w'
  rintro ⟨k, c1, c2, l1, l2, hk, rfl, hR1, hR2, hr1, hr2, hI⟩
  have hl1 : l1.length ≤ p.length := by
    have h1 := congrArg List.length hr1
    have h2 := List.length_filter_le (fun c => !isP ⟨xs, xn⟩ c) p
    simp only [List.length_append] at h1
    omega
  have hl2 : l2.length ≤ p.length := by
    have h1 := congrArg List.length hr2
    have h2 := List.length_filter_le (isP ⟨xs, xn⟩) p
    simp only [List.length_append] at h1
    omega
  have hcl1 := hR1.hc
  have hcl2 := hR2.hc
  refine r_lss ?_
  refine condP (fun hki => ?_) (fun hki => ?_)
  · have hk' : k < p.length := by omega
    rw [← filter_snoc _ p k hk' l1] at hr1
    rw [← filter_snoc _ p k hk' l2] at hr2
    refine ⟨fun t u w' => ∃ c1' c2', Rows 5 (RdC S) c1' (if (!isP ⟨xs, xn⟩ p[k]) = true then l1 ++ [p[k]] else l1) ∧ Rows 5 (RdC S) c2' (if isP ⟨xs, xn⟩ p[k] = true then l2 ++ [p[k]] else l2) ∧
        Inv w [] [.blk b3 (.cells #[.string xs, .int .i64 xn] t_iPred), rowG t t_iClause 5 c1', rowG u t_iClause 5 c2'] S w', ?_, ?_⟩
    · refine r_elem hI h sl_SiClause ag_iClause hk' (fun _ _ => RdC.length) fun cs hcs => ?_
      have hcs0 := hcs
      obtain ⟨hd, ks, rfl, h1, h2⟩ := hcs
      have h1' := h1
      obtain ⟨kv, rfl, _, _, hs, hks⟩ := RdT.iff.1 h1
      have hc0 : RdC S [.int .i64 p[k].head.kind, .int .i64 p[k].head.n, .string p[k].head.name, kv, ks] p[k] := hcs0
      refine r_alloc hI zo_iClause fun b9 w' hI => ?_
      refine r_storeW hI 3 rfl ag_iClause rfl rfl hc0.one fun w' hI => ?_
      have hI : Inv w [] [.blk b3 (.cells #[.string xs, .int .i64 xn] t_iPred), rowG t6 t_iClause 5 c1, rowG t7 t_iClause 5 c2, .blk b9 (.cells #[.int .i64 p[k].head.kind, .int .i64 p[k].head.n, .string p[k].head.name, kv, ks] t_iClause)] S w' := hI
      refine ⟨fun D x23 x22 x21 x20 x19 w_ => (D 0 = true → x19 = .pointer (some ⟨b9, 0, none⟩)) ∧ (D 1 = true → x20 = .agg #[.int .i64 p[k].head.kind, .int .i64 p[k].head.n, .string p[k].head.name, kv]) ∧ (D 2 = true → x21 = .agg #[.string p[k].head.name, .int .i64 p[k].head.kids.length]) ∧ (D 3 = true → x22 = .agg #[.string xs, .int .i64 xn]) ∧ (D 4 = true → x23 = .bool (isP ⟨xs, xn⟩ p[k])) ∧ Inv w [] [.blk b3 (.cells #[.string xs, .int .i64 xn] t_iPred), rowG t6 t_iClause 5 c1, rowG t7 t_iClause 5 c2, .blk b9 (.cells #[.int .i64 p[k].head.kind, .int .i64 p[k].head.n, .string p[k].head.name, kv, ks] t_iClause)] S w_, ⟨fun h => Bool.noConfusion h, fun h => Bool.noConfusion h, fun h => Bool.noConfusion h, fun h => Bool.noConfusion h, fun h => Bool.noConfusion h, hI.draw⟩, ⟨?_, ?_, ?_, ?_, ?_, trivial⟩, ?_⟩
      · intro D hD_  x23 x22 x21 x20 x19 w_
        rintro ⟨h0_, h1_, h2_, h3_, h4_, hI⟩
        refine r_field fo_iClause_0 ?_
        exact ⟨fun _ => rfl, h1_, h2_, h3_, h4_, hI⟩
      · intro D hD_ d0_0 x23 x22 x21 x20 x19 w_
        rintro ⟨h0_, h1_, h2_, h3_, h4_, hI⟩
        obtain rfl := h0_ d0_0
        refine r_loadLA hI 3 [.int .i64 p[k].head.kind, .int .i64 p[k].head.n, .string p[k].head.name, kv] ag_iTerm rfl rfl sub4 ?_
        exact ⟨h0_, fun _ => rfl, h2_, h3_, h4_, hI⟩
      · intro D hD_ d1_0 x23 x22 x21 x20 x19 w_
        rintro ⟨h0_, h1_, h2_, h3_, h4_, hI⟩
        obtain rfl := h1_ d1_0
        refine Run.callPure fn_i_pred nm_i_pred hI (i_pred_calls h1') fun w_ hI => ?_
        exact ⟨h0_, h1_, fun _ => rfl, h3_, h4_, hI⟩
      · intro D hD_  x23 x22 x21 x20 x19 w_
        rintro ⟨h0_, h1_, h2_, h3_, h4_, hI⟩
        refine r_loadW hI 0 ag_iPred rfl rfl ?_
        exact ⟨h0_, h1_, h2_, fun _ => rfl, h4_, hI⟩
      · intro D hD_ d2_0 d3_1 x23 x22 x21 x20 x19 w_
        rintro ⟨h0_, h1_, h2_, h3_, h4_, hI⟩
        obtain rfl := h2_ d2_0
        obtain rfl := h3_ d3_1
        refine r_peql ?_
        exact ⟨h0_, h1_, h2_, h3_, fun _ => rfl, hI⟩
      intro D d4_ d3_ d2_ d1_ d0_ x23 x22 x21 x20 x19 w_
      rintro ⟨h0_, h1_, h2_, h3_, h4_, hI⟩
      obtain rfl := h4_ d4_
      obtain rfl := h3_ d3_
      obtain rfl := h2_ d2_
      obtain rfl := h1_ d1_
      obtain rfl := h0_ d0_
      clear h0_ h1_ h2_ h3_ h4_
      refine condV (fun hb => ?_) (fun hb => ?_)
      · refine r_loadW hI 3 ag_iClause rfl rfl ?_
        refine r_append1 hI 2 [.int .i64 p[k].head.kind, .int .i64 p[k].head.n, .string p[k].head.name, kv, ks] mk_SiClause (by omega) (by omega) rfl rfl hc0.one (by omega) (by omega) fun v' w' hI => ?_
        refine ⟨c1, c2 ++ [_], ?_, ?_, hI.pick [true, true, true, false]⟩
        · rw [if_neg (by rw [hb]; decide)]; exact hR1
        · rw [if_pos hb]; exact hR2.snoc hc0 rfl
      · refine r_loadW hI 3 ag_iClause rfl rfl ?_
        refine r_append1 hI 1 [.int .i64 p[k].head.kind, .int .i64 p[k].head.n, .string p[k].head.name, kv, ks] mk_SiClause (by omega) (by omega) rfl rfl hc0.one (by omega) (by omega) fun v' w' hI => ?_
        refine ⟨c1 ++ [_], c2, ?_, ?_, hI.pick [true, true, true, false]⟩
        · rw [if_pos (by rw [hb]; rfl)]; exact hR1.snoc hc0 rfl
        · rw [if_neg (by rw [hb]; decide)]; exact hR2
    · intro t _ _ _ _ u _ _ _ _ _ _ _ _ _ _ _ _ w'
      rintro ⟨c1', c2', hR1, hR2, hI⟩
      refine r_add (by omega) ?_
      exact ⟨⟨k + 1, c1', c2', _, _, hk', rfl, hR1, hR2, hr1, hr2, hI⟩, by simp [intOf]; omega⟩
  · have : k = p.length := by omega
    subst this
    rw [List.drop_length, List.filter_nil, List.append_nil] at hr1 hr2
    refine r_appendRow hI 1 2 mk_SiClause (by omega) rfl rfl hR2.hk (moved_one hR2) (by omega) (by omega) fun v' w' hI => ?_
    have hI : Inv w [] ([] ++ [rowG v' t_iClause 5 (c1 ++ c2)]) S w' := hI.pick [false, true, false]
    obtain ⟨S1, hle, hrd, hI, _⟩ := hI.lend
    have hR := hR1.append hR2
    rw [hr1, hr2] at hR
    have hrr : RdSl S1 5 (RdC S1) v' (movedP p ⟨xs, xn⟩) := (RowRd.rows hR hrd).mono (Sle.refl _) fun _ _ h => h.mono hle
    refine Run.call0 fn_i_ownProgram nm_i_ownProgram hI (ownProgram_calls hrr (by omega)) fun v3 I' S' w' => ?_
    rintro ⟨rfl, L, rfl, hT⟩ _ hI
    exact ⟨_, _, _, rfl, hI.less hle, Ext.refl _ _ _, rfl, _, L, rfl, rfl, hT⟩

end Go.Proofs.Ytnoieadimkgjcaa
