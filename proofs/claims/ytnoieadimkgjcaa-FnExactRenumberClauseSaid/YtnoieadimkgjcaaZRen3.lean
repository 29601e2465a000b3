/- The clauses for a goal; which clauses can be unfolded: both sides. -/
import Derived.Test.YtnoieadimkgjcaaZRen2
namespace Go.Proofs.Ytnoieadimkgjcaa
open Go Go.RowKit
attribute [local irreducible] Run CondV GuardV LoadV

theorem posOf_step (f : C → Bool) (p : List C) (k : Nat) (h : k < p.length) (l : List Int) : (if f p[k] = true then l ++ [(k : Int)] else l) ++ posOf f (p.drop (k + 1)) (k + 1) = l ++ posOf f (p.drop k) k := by
  rw [List.drop_eq_getElem_cons h, posOf]
  split
  · rw [List.append_assoc]; rfl
  · rfl

theorem clausesFor_calls {p : List C} {S : Store} {v : Value} (x : Pd) (h : RdSl S 5 (RdC S) v p) (hp : p.length ≤ 2000000) : Tri Try.prog n_i_clausesFor [v, .agg x.cells.toArray] [] S (PostV S (posOf (fun c => eqPd (predT c.head) x) p 0)) := by
  intro w hI
  obtain ⟨xs, xn⟩ := x
  refine calls_i_clausesFor ?_
  unfold sh_i_clausesFor
  refine r_box hI fun b3 w' hI => ?_
  refine r_lenSl h sl_SiClause ?_
  refine ⟨fun i t w' => ∃ (k : Nat) (l : List Int), k ≤ p.length ∧ i = .int .i64 k ∧ l ++ posOf (fun c => eqPd (predT c.head) ⟨xs, xn⟩) (p.drop k) k = posOf (fun c => eqPd (predT c.head) ⟨xs, xn⟩) p 0 ∧ l.length ≤ k ∧
      Inv w [] [.blk b3 (.cells #[.string xs, .int .i64 xn] t_iPred), rowI t l] S w', fun i _ _ => p.length - (intOf i).toNat, ⟨0, [], Nat.zero_le _, rfl, rfl, Nat.le_refl _, hI.rowNil t_int 1⟩, ?_⟩
  intro t10 _ t5 _ _ _ _ t19 t18 t17 t16 t15 _ _ _ _ _ _ w'
  rintro ⟨k, l, hk, rfl, hrel, hl, hI⟩
  refine r_lss ?_
  refine condP (fun hki => ?_) (fun hki => ?_)
  · have hk' : k < p.length := by omega
    refine ⟨fun t w' => Inv w [] [.blk b3 (.cells #[.string xs, .int .i64 xn] t_iPred), rowI t (if eqPd (predT p[k].head) ⟨xs, xn⟩ = true then l ++ [(k : Int)] else l)] S w', ?_, ?_⟩
    · refine r_elem hI h sl_SiClause ag_iClause hk' (fun _ _ => RdC.length) fun cs hcs => ?_
      obtain ⟨hd, ks, rfl, h1, h2⟩ := hcs
      have h1' := h1
      obtain ⟨kv, rfl, _, _, hs, hks⟩ := RdT.iff.1 h1
      have hkv : kv.oneCell' = true ∧ ks.oneCell' = true := by
        obtain ⟨a, cap, rfl, _⟩ := hks
        obtain ⟨a, cap, rfl, _⟩ := h2
        exact ⟨rfl, rfl⟩
      refine r_alloc hI zo_iClause fun b7 w' hI => ?_
      refine r_storeW hI 2 rfl ag_iClause rfl rfl (by
        intro u hu
        have hu' : u ∈ ([.int .i64 p[k].head.kind, .int .i64 p[k].head.n, .string p[k].head.name, kv, ks] : List Value) := hu
        simp at hu'
        rcases hu' with rfl | rfl | rfl | rfl | rfl <;> first | rfl | exact hkv.1 | exact hkv.2) fun w' hI => ?_
      have hI : Inv w [] [.blk b3 (.cells #[.string xs, .int .i64 xn] t_iPred), rowI t5 l, .blk b7 (.cells #[.int .i64 p[k].head.kind, .int .i64 p[k].head.n, .string p[k].head.name, kv, ks] t_iClause)] S w' := hI
      refine ⟨fun D x19 x18 x17 x16 x15 w_ => (D 0 = true → x15 = .pointer (some ⟨b7, 0, none⟩)) ∧ (D 1 = true → x16 = .agg #[.int .i64 p[k].head.kind, .int .i64 p[k].head.n, .string p[k].head.name, kv]) ∧ (D 2 = true → x17 = .agg #[.string p[k].head.name, .int .i64 p[k].head.kids.length]) ∧ (D 3 = true → x18 = .agg #[.string xs, .int .i64 xn]) ∧ (D 4 = true → x19 = .bool (eqPd (predT p[k].head) ⟨xs, xn⟩)) ∧ Inv w [] [.blk b3 (.cells #[.string xs, .int .i64 xn] t_iPred), rowI t5 l, .blk b7 (.cells #[.int .i64 p[k].head.kind, .int .i64 p[k].head.n, .string p[k].head.name, kv, ks] t_iClause)] S w_, ⟨fun h => Bool.noConfusion h, fun h => Bool.noConfusion h, fun h => Bool.noConfusion h, fun h => Bool.noConfusion h, fun h => Bool.noConfusion h, hI.draw⟩, ⟨?_, ?_, ?_, ?_, ?_, trivial⟩, ?_⟩
      · intro D hD_  x19 x18 x17 x16 x15 w_
        rintro ⟨h0_, h1_, h2_, h3_, h4_, hI⟩
        refine r_field fo_iClause_0 ?_
        exact ⟨fun _ => rfl, h1_, h2_, h3_, h4_, hI⟩
      · intro D hD_ d0_0 x19 x18 x17 x16 x15 w_
        rintro ⟨h0_, h1_, h2_, h3_, h4_, hI⟩
        obtain rfl := h0_ d0_0
        refine r_loadLA hI 2 [.int .i64 p[k].head.kind, .int .i64 p[k].head.n, .string p[k].head.name, kv] ag_iTerm rfl rfl sub4 ?_
        exact ⟨h0_, fun _ => rfl, h2_, h3_, h4_, hI⟩
      · intro D hD_ d1_0 x19 x18 x17 x16 x15 w_
        rintro ⟨h0_, h1_, h2_, h3_, h4_, hI⟩
        obtain rfl := h1_ d1_0
        refine Run.callPure fn_i_pred nm_i_pred hI (i_pred_calls h1') fun w_ hI => ?_
        exact ⟨h0_, h1_, fun _ => rfl, h3_, h4_, hI⟩
      · intro D hD_  x19 x18 x17 x16 x15 w_
        rintro ⟨h0_, h1_, h2_, h3_, h4_, hI⟩
        refine r_loadW hI 0 ag_iPred rfl rfl ?_
        exact ⟨h0_, h1_, h2_, fun _ => rfl, h4_, hI⟩
      · intro D hD_ d2_0 d3_1 x19 x18 x17 x16 x15 w_
        rintro ⟨h0_, h1_, h2_, h3_, h4_, hI⟩
        obtain rfl := h2_ d2_0
        obtain rfl := h3_ d3_1
        refine r_peql ?_
        exact ⟨h0_, h1_, h2_, h3_, fun _ => rfl, hI⟩
      intro D d4_ d3_ d2_ d1_ d0_ x19 x18 x17 x16 x15 w_
      rintro ⟨h0_, h1_, h2_, h3_, h4_, hI⟩
      obtain rfl := h4_ d4_
      obtain rfl := h3_ d3_
      obtain rfl := h2_ d2_
      obtain rfl := h1_ d1_
      obtain rfl := h0_ d0_
      clear h0_ h1_ h2_ h3_ h4_
      refine condV (fun hb => ?_) (fun hb => ?_)
      · refine r_slice1 hI mk_Sint rfl (by omega) (by omega) fun b w' hI => ?_
        refine r_append hI 1 (k := 1) [.int .i64 k] mk_Sint (by omega) rfl rfl ?_ ?_ (by omega) (by omega) fun v' w' hI => ?_
        · intro j u hj
          rw [hI.cellL (i := 3) rfl]
          match j with
          | 0 => simpa [Value.cells] using hj
          | j + 1 => simp at hj
        · simp [Value.oneCell']
        · rw [ints_snoc] at hI
          have hI := hI.pick [true, true, false, false]
          rw [if_pos hb]
          have e : Item.row v' t_int 1 (l.length + 1) (ints (l ++ [(k : Int)])) = rowI v' (l ++ [(k : Int)]) := by simp [rowI]
          rw [show List.length l + 1 = l.length + 1 from rfl, e] at hI
          exact hI
      · rw [if_neg (by rw [hb]; decide)]
        exact hI.pick [true, true, false]
    intro t5 _ _ _ _ _ _ _ _ _ _ _ _ _ _ w' hI
    refine r_add (by omega) ?_
    refine ⟨⟨k + 1, _, hk', rfl, ?_, ?_, hI⟩, by simp [intOf]; omega⟩
    · rw [posOf_step (fun c => eqPd (predT c.head) ⟨xs, xn⟩) p k hk' l, hrel]
    · split
      · simp; omega
      · omega
  · have : k = p.length := by omega
    subst this
    rw [List.drop_length, posOf, List.append_nil] at hrel
    subst hrel
    exact ⟨_, _, _, rfl, hI.pick [false, true], Ext.refl _ _ _, rfl, rfl⟩

theorem l4For_calls {p : List C} {g : T} {S : Store} {v : Value} {cs : List Value} (h : RdSl S 5 (RdC S) v p) (hg : RdT S cs g) (hp : p.length ≤ 2000000) :
    Tri Try.prog n_s_l4For [v, .agg cs.toArray] [] S (PostV S (posOf (fun c => eqPd (predT c.head) (predT g)) p 0)) := by
  intro w hI
  obtain ⟨gv, rfl, _, _, hgs, hgk⟩ := RdT.iff.1 hg
  obtain ⟨gk, gn, gs, gks⟩ := g
  simp only [T.name, T.kids, T.kind, T.n] at hgs hgk ⊢
  refine calls_s_l4For ?_
  unfold sh_s_l4For
  refine r_box hI fun b3 w' hI => ?_
  refine r_slice0 hI mk_Sint fun v0 w' hI => ?_
  refine ⟨fun i t w' => ∃ (k : Nat) (l : List Int), k ≤ p.length ∧ i = .int .i64 k ∧ l ++ posOf (fun c => eqPd (predT c.head) (predT (.mk gk gn gs gks))) (p.drop k) k = posOf (fun c => eqPd (predT c.head) (predT (.mk gk gn gs gks))) p 0 ∧ l.length ≤ k ∧
      Inv w [] [.blk b3 (.cells #[.int .i64 gk, .int .i64 gn, .string gs, gv] t_iTerm), rowI t l] S w', fun i _ _ => p.length - (intOf i).toNat, ⟨0, [], Nat.zero_le _, rfl, rfl, Nat.le_refl _, hI⟩, ?_⟩
  intro t6 _ _ t5 _ _ _ _ t35 t34 t33 t32 t31 t30 t29 t28 t27 t26 t25 t24 t23 t22 t21 t20 t19 t18 t17 t16 t15 t14 _ _ _ _ w'
  rintro ⟨k, l, hk, rfl, hrel, hl, hI⟩
  refine r_lenSl h sl_SiClause ?_
  refine r_lss ?_
  refine condP (fun hki => ?_) (fun hki => ?_)
  · have hk' : k < p.length := by omega
    refine ⟨fun t w' => Inv w [] [.blk b3 (.cells #[.int .i64 gk, .int .i64 gn, .string gs, gv] t_iTerm), rowI t (if eqPd (predT p[k].head) (predT (.mk gk gn gs gks)) = true then l ++ [(k : Int)] else l)] S w', ?_, ?_⟩
    · obtain ⟨b, o, cap, c, E, fz, rfl, hS, hR⟩ := h.at_ hk'
      obtain ⟨hd, ks2, hcs, h1, h2⟩ := hR
      obtain ⟨kv, rfl, _, _, hs1, hk1⟩ := RdT.iff.1 h1
      have hf0 : eqPd (predT p[k].head) (predT (.mk gk gn gs gks)) = (decide (p[k].head.name = gs) && decide ((p[k].head.kids.length : Int) = gks.length)) := rfl
      cases hq : decide (p[k].head.name = gs)
      · have hf : eqPd (predT p[k].head) (predT (.mk gk gn gs gks)) = false := by rw [hf0, hq]; rfl
        refine ⟨fun D x35 x34 x33 x32 x31 x30 x29 x28 x27 x26 x25 x24 x23 x22 x21 x20 x19 x18 x17 x16 x15 x14 w_ => (D 0 = true → x14 = .slice (some ⟨b, o, none⟩) p.length cap) ∧ (D 1 = true → x15 = .int .i64 k) ∧ (D 2 = true → x16 = .pointer (some ⟨b, o + k * 5, none⟩)) ∧ (D 3 = true → x17 = .pointer (some ⟨b, o + k * 5, none⟩)) ∧ (D 4 = true → x18 = .pointer (some ⟨b, o + k * 5 + 2, none⟩)) ∧ (D 5 = true → x19 = .string p[k].head.name) ∧ (D 6 = true → x20 = .pointer (some ⟨b3, 2, none⟩)) ∧ (D 7 = true → x21 = .string gs) ∧ (D 8 = true → x22 = .bool false) ∧ (D 9 = true → x23 = .bool false) ∧ (D 10 = true → x24 = undef) ∧ (D 11 = true → x25 = undef) ∧ (D 12 = true → x26 = undef) ∧ (D 13 = true → x27 = undef) ∧ (D 14 = true → x28 = undef) ∧ (D 15 = true → x29 = undef) ∧ (D 16 = true → x30 = undef) ∧ (D 17 = true → x31 = undef) ∧ (D 18 = true → x32 = undef) ∧ (D 19 = true → x33 = undef) ∧ (D 20 = true → x34 = undef) ∧ (D 21 = true → x35 = .bool false) ∧ Inv w [] [.blk b3 (.cells #[.int .i64 gk, .int .i64 gn, .string gs, gv] t_iTerm), rowI t5 l] S w_, ⟨fun h => Bool.noConfusion h, fun h => Bool.noConfusion h, fun h => Bool.noConfusion h, fun h => Bool.noConfusion h, fun h => Bool.noConfusion h, fun h => Bool.noConfusion h, fun h => Bool.noConfusion h, fun h => Bool.noConfusion h, fun h => Bool.noConfusion h, fun h => Bool.noConfusion h, fun h => Bool.noConfusion h, fun h => Bool.noConfusion h, fun h => Bool.noConfusion h, fun h => Bool.noConfusion h, fun h => Bool.noConfusion h, fun h => Bool.noConfusion h, fun h => Bool.noConfusion h, fun h => Bool.noConfusion h, fun h => Bool.noConfusion h, fun h => Bool.noConfusion h, fun h => Bool.noConfusion h, fun h => Bool.noConfusion h, hI.draw⟩, ⟨?_, ?_, ?_, ?_, ?_, ?_, ?_, ?_, ?_, ?_, ?_, ?_, ?_, ?_, ?_, ?_, ?_, ?_, ?_, ?_, ?_, ?_, trivial⟩, ?_⟩
        · intro D hD_  x35 x34 x33 x32 x31 x30 x29 x28 x27 x26 x25 x24 x23 x22 x21 x20 x19 x18 x17 x16 x15 x14 w_
          rintro ⟨h0_, h1_, h2_, h3_, h4_, h5_, h6_, h7_, h8_, h9_, h10_, h11_, h12_, h13_, h14_, h15_, h16_, h17_, h18_, h19_, h20_, h21_, hI⟩
          exact ⟨fun _ => rfl, h1_, h2_, h3_, h4_, h5_, h6_, h7_, h8_, h9_, h10_, h11_, h12_, h13_, h14_, h15_, h16_, h17_, h18_, h19_, h20_, h21_, hI⟩
        · intro D hD_  x35 x34 x33 x32 x31 x30 x29 x28 x27 x26 x25 x24 x23 x22 x21 x20 x19 x18 x17 x16 x15 x14 w_
          rintro ⟨h0_, h1_, h2_, h3_, h4_, h5_, h6_, h7_, h8_, h9_, h10_, h11_, h12_, h13_, h14_, h15_, h16_, h17_, h18_, h19_, h20_, h21_, hI⟩
          exact ⟨h0_, fun _ => rfl, h2_, h3_, h4_, h5_, h6_, h7_, h8_, h9_, h10_, h11_, h12_, h13_, h14_, h15_, h16_, h17_, h18_, h19_, h20_, h21_, hI⟩
        · intro D hD_ d0_0 d1_1 x35 x34 x33 x32 x31 x30 x29 x28 x27 x26 x25 x24 x23 x22 x21 x20 x19 x18 x17 x16 x15 x14 w_
          rintro ⟨h0_, h1_, h2_, h3_, h4_, h5_, h6_, h7_, h8_, h9_, h10_, h11_, h12_, h13_, h14_, h15_, h16_, h17_, h18_, h19_, h20_, h21_, hI⟩
          obtain rfl := h0_ d0_0
          obtain rfl := h1_ d1_1
          refine r_indexAddr sl_SiClause hk' ?_
          exact ⟨h0_, h1_, fun _ => rfl, h3_, h4_, h5_, h6_, h7_, h8_, h9_, h10_, h11_, h12_, h13_, h14_, h15_, h16_, h17_, h18_, h19_, h20_, h21_, hI⟩
        · intro D hD_ d2_0 x35 x34 x33 x32 x31 x30 x29 x28 x27 x26 x25 x24 x23 x22 x21 x20 x19 x18 x17 x16 x15 x14 w_
          rintro ⟨h0_, h1_, h2_, h3_, h4_, h5_, h6_, h7_, h8_, h9_, h10_, h11_, h12_, h13_, h14_, h15_, h16_, h17_, h18_, h19_, h20_, h21_, hI⟩
          obtain rfl := h2_ d2_0
          refine r_field fo_iClause_0 ?_
          exact ⟨h0_, h1_, h2_, fun _ => rfl, h4_, h5_, h6_, h7_, h8_, h9_, h10_, h11_, h12_, h13_, h14_, h15_, h16_, h17_, h18_, h19_, h20_, h21_, hI⟩
        · intro D hD_ d3_0 x35 x34 x33 x32 x31 x30 x29 x28 x27 x26 x25 x24 x23 x22 x21 x20 x19 x18 x17 x16 x15 x14 w_
          rintro ⟨h0_, h1_, h2_, h3_, h4_, h5_, h6_, h7_, h8_, h9_, h10_, h11_, h12_, h13_, h14_, h15_, h16_, h17_, h18_, h19_, h20_, h21_, hI⟩
          obtain rfl := h3_ d3_0
          refine r_field fo_iTerm_2 ?_
          exact ⟨h0_, h1_, h2_, h3_, fun _ => rfl, h5_, h6_, h7_, h8_, h9_, h10_, h11_, h12_, h13_, h14_, h15_, h16_, h17_, h18_, h19_, h20_, h21_, hI⟩
        · intro D hD_ d4_0 x35 x34 x33 x32 x31 x30 x29 x28 x27 x26 x25 x24 x23 x22 x21 x20 x19 x18 x17 x16 x15 x14 w_
          rintro ⟨h0_, h1_, h2_, h3_, h4_, h5_, h6_, h7_, h8_, h9_, h10_, h11_, h12_, h13_, h14_, h15_, h16_, h17_, h18_, h19_, h20_, h21_, hI⟩
          obtain rfl := h4_ d4_0
          refine r_load sc_string (by rw [hI.cellS hS]; exact cellsAt_get hcs 2 _ rfl) ?_
          exact ⟨h0_, h1_, h2_, h3_, h4_, fun _ => rfl, h6_, h7_, h8_, h9_, h10_, h11_, h12_, h13_, h14_, h15_, h16_, h17_, h18_, h19_, h20_, h21_, hI⟩
        · intro D hD_  x35 x34 x33 x32 x31 x30 x29 x28 x27 x26 x25 x24 x23 x22 x21 x20 x19 x18 x17 x16 x15 x14 w_
          rintro ⟨h0_, h1_, h2_, h3_, h4_, h5_, h6_, h7_, h8_, h9_, h10_, h11_, h12_, h13_, h14_, h15_, h16_, h17_, h18_, h19_, h20_, h21_, hI⟩
          refine r_field fo_iTerm_2 ?_
          exact ⟨h0_, h1_, h2_, h3_, h4_, h5_, fun _ => rfl, h7_, h8_, h9_, h10_, h11_, h12_, h13_, h14_, h15_, h16_, h17_, h18_, h19_, h20_, h21_, hI⟩
        · intro D hD_ d6_0 x35 x34 x33 x32 x31 x30 x29 x28 x27 x26 x25 x24 x23 x22 x21 x20 x19 x18 x17 x16 x15 x14 w_
          rintro ⟨h0_, h1_, h2_, h3_, h4_, h5_, h6_, h7_, h8_, h9_, h10_, h11_, h12_, h13_, h14_, h15_, h16_, h17_, h18_, h19_, h20_, h21_, hI⟩
          obtain rfl := h6_ d6_0
          refine r_loadL hI 0 sc_string rfl rfl ?_
          exact ⟨h0_, h1_, h2_, h3_, h4_, h5_, h6_, fun _ => rfl, h8_, h9_, h10_, h11_, h12_, h13_, h14_, h15_, h16_, h17_, h18_, h19_, h20_, h21_, hI⟩
        · intro D hD_ d5_0 d7_1 x35 x34 x33 x32 x31 x30 x29 x28 x27 x26 x25 x24 x23 x22 x21 x20 x19 x18 x17 x16 x15 x14 w_
          rintro ⟨h0_, h1_, h2_, h3_, h4_, h5_, h6_, h7_, h8_, h9_, h10_, h11_, h12_, h13_, h14_, h15_, h16_, h17_, h18_, h19_, h20_, h21_, hI⟩
          obtain rfl := h5_ d5_0
          obtain rfl := h7_ d7_1
          refine r_seql ?_; rw [hq]
          exact ⟨h0_, h1_, h2_, h3_, h4_, h5_, h6_, h7_, fun _ => rfl, h9_, h10_, h11_, h12_, h13_, h14_, h15_, h16_, h17_, h18_, h19_, h20_, h21_, hI⟩
        · intro D hD_ d8_0 x35 x34 x33 x32 x31 x30 x29 x28 x27 x26 x25 x24 x23 x22 x21 x20 x19 x18 x17 x16 x15 x14 w_
          rintro ⟨h0_, h1_, h2_, h3_, h4_, h5_, h6_, h7_, h8_, h9_, h10_, h11_, h12_, h13_, h14_, h15_, h16_, h17_, h18_, h19_, h20_, h21_, hI⟩
          obtain rfl := h8_ d8_0
          exact ⟨h0_, h1_, h2_, h3_, h4_, h5_, h6_, h7_, h8_, fun _ => rfl, h10_, h11_, h12_, h13_, h14_, h15_, h16_, h17_, h18_, h19_, h20_, h21_, hI⟩
        · intro D hD_ d9_0 x35 x34 x33 x32 x31 x30 x29 x28 x27 x26 x25 x24 x23 x22 x21 x20 x19 x18 x17 x16 x15 x14 w_
          rintro ⟨h0_, h1_, h2_, h3_, h4_, h5_, h6_, h7_, h8_, h9_, h10_, h11_, h12_, h13_, h14_, h15_, h16_, h17_, h18_, h19_, h20_, h21_, hI⟩
          obtain rfl := h9_ d9_0
          refine guard_ne (c := false) (b := true) (by decide) ?_
          exact ⟨h0_, h1_, h2_, h3_, h4_, h5_, h6_, h7_, h8_, h9_, fun _ => rfl, h11_, h12_, h13_, h14_, h15_, h16_, h17_, h18_, h19_, h20_, h21_, hI⟩
        · intro D hD_ d9_0 x35 x34 x33 x32 x31 x30 x29 x28 x27 x26 x25 x24 x23 x22 x21 x20 x19 x18 x17 x16 x15 x14 w_
          rintro ⟨h0_, h1_, h2_, h3_, h4_, h5_, h6_, h7_, h8_, h9_, h10_, h11_, h12_, h13_, h14_, h15_, h16_, h17_, h18_, h19_, h20_, h21_, hI⟩
          obtain rfl := h9_ d9_0
          refine guard_ne (c := false) (b := true) (by decide) ?_
          exact ⟨h0_, h1_, h2_, h3_, h4_, h5_, h6_, h7_, h8_, h9_, h10_, fun _ => rfl, h12_, h13_, h14_, h15_, h16_, h17_, h18_, h19_, h20_, h21_, hI⟩
        · intro D hD_ d10_0 d11_1 d9_2 x35 x34 x33 x32 x31 x30 x29 x28 x27 x26 x25 x24 x23 x22 x21 x20 x19 x18 x17 x16 x15 x14 w_
          rintro ⟨h0_, h1_, h2_, h3_, h4_, h5_, h6_, h7_, h8_, h9_, h10_, h11_, h12_, h13_, h14_, h15_, h16_, h17_, h18_, h19_, h20_, h21_, hI⟩
          obtain rfl := h10_ d10_0
          obtain rfl := h11_ d11_1
          obtain rfl := h9_ d9_2
          refine guard_ne (c := false) (b := true) (by decide) ?_
          exact ⟨h0_, h1_, h2_, h3_, h4_, h5_, h6_, h7_, h8_, h9_, h10_, h11_, fun _ => rfl, h13_, h14_, h15_, h16_, h17_, h18_, h19_, h20_, h21_, hI⟩
        · intro D hD_ d12_0 d9_1 x35 x34 x33 x32 x31 x30 x29 x28 x27 x26 x25 x24 x23 x22 x21 x20 x19 x18 x17 x16 x15 x14 w_
          rintro ⟨h0_, h1_, h2_, h3_, h4_, h5_, h6_, h7_, h8_, h9_, h10_, h11_, h12_, h13_, h14_, h15_, h16_, h17_, h18_, h19_, h20_, h21_, hI⟩
          obtain rfl := h12_ d12_0
          obtain rfl := h9_ d9_1
          refine guard_ne (c := false) (b := true) (by decide) ?_
          exact ⟨h0_, h1_, h2_, h3_, h4_, h5_, h6_, h7_, h8_, h9_, h10_, h11_, h12_, fun _ => rfl, h14_, h15_, h16_, h17_, h18_, h19_, h20_, h21_, hI⟩
        · intro D hD_ d13_0 d9_1 x35 x34 x33 x32 x31 x30 x29 x28 x27 x26 x25 x24 x23 x22 x21 x20 x19 x18 x17 x16 x15 x14 w_
          rintro ⟨h0_, h1_, h2_, h3_, h4_, h5_, h6_, h7_, h8_, h9_, h10_, h11_, h12_, h13_, h14_, h15_, h16_, h17_, h18_, h19_, h20_, h21_, hI⟩
          obtain rfl := h13_ d13_0
          obtain rfl := h9_ d9_1
          refine guard_ne (c := false) (b := true) (by decide) ?_
          exact ⟨h0_, h1_, h2_, h3_, h4_, h5_, h6_, h7_, h8_, h9_, h10_, h11_, h12_, h13_, fun _ => rfl, h15_, h16_, h17_, h18_, h19_, h20_, h21_, hI⟩
        · intro D hD_ d14_0 d9_1 x35 x34 x33 x32 x31 x30 x29 x28 x27 x26 x25 x24 x23 x22 x21 x20 x19 x18 x17 x16 x15 x14 w_
          rintro ⟨h0_, h1_, h2_, h3_, h4_, h5_, h6_, h7_, h8_, h9_, h10_, h11_, h12_, h13_, h14_, h15_, h16_, h17_, h18_, h19_, h20_, h21_, hI⟩
          obtain rfl := h14_ d14_0
          obtain rfl := h9_ d9_1
          refine guard_ne (c := false) (b := true) (by decide) ?_
          exact ⟨h0_, h1_, h2_, h3_, h4_, h5_, h6_, h7_, h8_, h9_, h10_, h11_, h12_, h13_, h14_, fun _ => rfl, h16_, h17_, h18_, h19_, h20_, h21_, hI⟩
        · intro D hD_ d15_0 d9_1 x35 x34 x33 x32 x31 x30 x29 x28 x27 x26 x25 x24 x23 x22 x21 x20 x19 x18 x17 x16 x15 x14 w_
          rintro ⟨h0_, h1_, h2_, h3_, h4_, h5_, h6_, h7_, h8_, h9_, h10_, h11_, h12_, h13_, h14_, h15_, h16_, h17_, h18_, h19_, h20_, h21_, hI⟩
          obtain rfl := h15_ d15_0
          obtain rfl := h9_ d9_1
          refine guard_ne (c := false) (b := true) (by decide) ?_
          exact ⟨h0_, h1_, h2_, h3_, h4_, h5_, h6_, h7_, h8_, h9_, h10_, h11_, h12_, h13_, h14_, h15_, fun _ => rfl, h17_, h18_, h19_, h20_, h21_, hI⟩
        · intro D hD_ d9_0 x35 x34 x33 x32 x31 x30 x29 x28 x27 x26 x25 x24 x23 x22 x21 x20 x19 x18 x17 x16 x15 x14 w_
          rintro ⟨h0_, h1_, h2_, h3_, h4_, h5_, h6_, h7_, h8_, h9_, h10_, h11_, h12_, h13_, h14_, h15_, h16_, h17_, h18_, h19_, h20_, h21_, hI⟩
          obtain rfl := h9_ d9_0
          refine guard_ne (c := false) (b := true) (by decide) ?_
          exact ⟨h0_, h1_, h2_, h3_, h4_, h5_, h6_, h7_, h8_, h9_, h10_, h11_, h12_, h13_, h14_, h15_, h16_, fun _ => rfl, h18_, h19_, h20_, h21_, hI⟩
        · intro D hD_ d17_0 d9_1 x35 x34 x33 x32 x31 x30 x29 x28 x27 x26 x25 x24 x23 x22 x21 x20 x19 x18 x17 x16 x15 x14 w_
          rintro ⟨h0_, h1_, h2_, h3_, h4_, h5_, h6_, h7_, h8_, h9_, h10_, h11_, h12_, h13_, h14_, h15_, h16_, h17_, h18_, h19_, h20_, h21_, hI⟩
          obtain rfl := h17_ d17_0
          obtain rfl := h9_ d9_1
          refine guard_ne (c := false) (b := true) (by decide) ?_
          exact ⟨h0_, h1_, h2_, h3_, h4_, h5_, h6_, h7_, h8_, h9_, h10_, h11_, h12_, h13_, h14_, h15_, h16_, h17_, fun _ => rfl, h19_, h20_, h21_, hI⟩
        · intro D hD_ d18_0 d9_1 x35 x34 x33 x32 x31 x30 x29 x28 x27 x26 x25 x24 x23 x22 x21 x20 x19 x18 x17 x16 x15 x14 w_
          rintro ⟨h0_, h1_, h2_, h3_, h4_, h5_, h6_, h7_, h8_, h9_, h10_, h11_, h12_, h13_, h14_, h15_, h16_, h17_, h18_, h19_, h20_, h21_, hI⟩
          obtain rfl := h18_ d18_0
          obtain rfl := h9_ d9_1
          refine guard_ne (c := false) (b := true) (by decide) ?_
          exact ⟨h0_, h1_, h2_, h3_, h4_, h5_, h6_, h7_, h8_, h9_, h10_, h11_, h12_, h13_, h14_, h15_, h16_, h17_, h18_, fun _ => rfl, h20_, h21_, hI⟩
        · intro D hD_ d16_0 d19_1 d9_2 x35 x34 x33 x32 x31 x30 x29 x28 x27 x26 x25 x24 x23 x22 x21 x20 x19 x18 x17 x16 x15 x14 w_
          rintro ⟨h0_, h1_, h2_, h3_, h4_, h5_, h6_, h7_, h8_, h9_, h10_, h11_, h12_, h13_, h14_, h15_, h16_, h17_, h18_, h19_, h20_, h21_, hI⟩
          obtain rfl := h16_ d16_0
          obtain rfl := h19_ d19_1
          obtain rfl := h9_ d9_2
          refine guard_ne (c := false) (b := true) (by decide) ?_
          exact ⟨h0_, h1_, h2_, h3_, h4_, h5_, h6_, h7_, h8_, h9_, h10_, h11_, h12_, h13_, h14_, h15_, h16_, h17_, h18_, h19_, fun _ => rfl, h21_, hI⟩
        · intro D hD_ d9_0 d20_1 x35 x34 x33 x32 x31 x30 x29 x28 x27 x26 x25 x24 x23 x22 x21 x20 x19 x18 x17 x16 x15 x14 w_
          rintro ⟨h0_, h1_, h2_, h3_, h4_, h5_, h6_, h7_, h8_, h9_, h10_, h11_, h12_, h13_, h14_, h15_, h16_, h17_, h18_, h19_, h20_, h21_, hI⟩
          obtain rfl := h9_ d9_0
          obtain rfl := h20_ d20_1
          refine r_pickF ?_
          exact ⟨h0_, h1_, h2_, h3_, h4_, h5_, h6_, h7_, h8_, h9_, h10_, h11_, h12_, h13_, h14_, h15_, h16_, h17_, h18_, h19_, h20_, fun _ => rfl, hI⟩
        intro D d21_ d20_ d19_ d18_ d17_ d16_ d15_ d14_ d13_ d12_ d11_ d10_ d9_ d8_ d7_ d6_ d5_ d4_ d3_ d2_ d1_ d0_ x35 x34 x33 x32 x31 x30 x29 x28 x27 x26 x25 x24 x23 x22 x21 x20 x19 x18 x17 x16 x15 x14 w_
        rintro ⟨h0_, h1_, h2_, h3_, h4_, h5_, h6_, h7_, h8_, h9_, h10_, h11_, h12_, h13_, h14_, h15_, h16_, h17_, h18_, h19_, h20_, h21_, hI⟩
        obtain rfl := h21_ d21_
        obtain rfl := h20_ d20_
        obtain rfl := h19_ d19_
        obtain rfl := h18_ d18_
        obtain rfl := h17_ d17_
        obtain rfl := h16_ d16_
        obtain rfl := h15_ d15_
        obtain rfl := h14_ d14_
        obtain rfl := h13_ d13_
        obtain rfl := h12_ d12_
        obtain rfl := h11_ d11_
        obtain rfl := h10_ d10_
        obtain rfl := h9_ d9_
        obtain rfl := h8_ d8_
        obtain rfl := h7_ d7_
        obtain rfl := h6_ d6_
        obtain rfl := h5_ d5_
        obtain rfl := h4_ d4_
        obtain rfl := h3_ d3_
        obtain rfl := h2_ d2_
        obtain rfl := h1_ d1_
        obtain rfl := h0_ d0_
        clear h0_ h1_ h2_ h3_ h4_ h5_ h6_ h7_ h8_ h9_ h10_ h11_ h12_ h13_ h14_ h15_ h16_ h17_ h18_ h19_ h20_ h21_
        refine condV (fun hb => by cases hb) (fun hb => ?_)
        rw [hf, if_neg (by decide)]
        exact hI
      · have hf : eqPd (predT p[k].head) (predT (.mk gk gn gs gks)) = decide ((p[k].head.kids.length : Int) = gks.length) := by rw [hf0, hq]; rfl
        refine ⟨fun D x35 x34 x33 x32 x31 x30 x29 x28 x27 x26 x25 x24 x23 x22 x21 x20 x19 x18 x17 x16 x15 x14 w_ => (D 0 = true → x14 = .slice (some ⟨b, o, none⟩) p.length cap) ∧ (D 1 = true → x15 = .int .i64 k) ∧ (D 2 = true → x16 = .pointer (some ⟨b, o + k * 5, none⟩)) ∧ (D 3 = true → x17 = .pointer (some ⟨b, o + k * 5, none⟩)) ∧ (D 4 = true → x18 = .pointer (some ⟨b, o + k * 5 + 2, none⟩)) ∧ (D 5 = true → x19 = .string p[k].head.name) ∧ (D 6 = true → x20 = .pointer (some ⟨b3, 2, none⟩)) ∧ (D 7 = true → x21 = .string gs) ∧ (D 8 = true → x22 = .bool true) ∧ (D 9 = true → x23 = .bool true) ∧ (D 10 = true → x24 = .slice (some ⟨b, o, none⟩) p.length cap) ∧ (D 11 = true → x25 = .int .i64 k) ∧ (D 12 = true → x26 = .pointer (some ⟨b, o + k * 5, none⟩)) ∧ (D 13 = true → x27 = .pointer (some ⟨b, o + k * 5, none⟩)) ∧ (D 14 = true → x28 = .pointer (some ⟨b, o + k * 5 + 3, none⟩)) ∧ (D 15 = true → x29 = kv) ∧ (D 16 = true → x30 = .int .i64 p[k].head.kids.length) ∧ (D 17 = true → x31 = .pointer (some ⟨b3, 3, none⟩)) ∧ (D 18 = true → x32 = gv) ∧ (D 19 = true → x33 = .int .i64 gks.length) ∧ (D 20 = true → x34 = .bool (decide ((p[k].head.kids.length : Int) = gks.length))) ∧ (D 21 = true → x35 = .bool (decide ((p[k].head.kids.length : Int) = gks.length))) ∧ Inv w [] [.blk b3 (.cells #[.int .i64 gk, .int .i64 gn, .string gs, gv] t_iTerm), rowI t5 l] S w_, ⟨fun h => Bool.noConfusion h, fun h => Bool.noConfusion h, fun h => Bool.noConfusion h, fun h => Bool.noConfusion h, fun h => Bool.noConfusion h, fun h => Bool.noConfusion h, fun h => Bool.noConfusion h, fun h => Bool.noConfusion h, fun h => Bool.noConfusion h, fun h => Bool.noConfusion h, fun h => Bool.noConfusion h, fun h => Bool.noConfusion h, fun h => Bool.noConfusion h, fun h => Bool.noConfusion h, fun h => Bool.noConfusion h, fun h => Bool.noConfusion h, fun h => Bool.noConfusion h, fun h => Bool.noConfusion h, fun h => Bool.noConfusion h, fun h => Bool.noConfusion h, fun h => Bool.noConfusion h, fun h => Bool.noConfusion h, hI.draw⟩, ⟨?_, ?_, ?_, ?_, ?_, ?_, ?_, ?_, ?_, ?_, ?_, ?_, ?_, ?_, ?_, ?_, ?_, ?_, ?_, ?_, ?_, ?_, trivial⟩, ?_⟩
        · intro D hD_  x35 x34 x33 x32 x31 x30 x29 x28 x27 x26 x25 x24 x23 x22 x21 x20 x19 x18 x17 x16 x15 x14 w_
          rintro ⟨h0_, h1_, h2_, h3_, h4_, h5_, h6_, h7_, h8_, h9_, h10_, h11_, h12_, h13_, h14_, h15_, h16_, h17_, h18_, h19_, h20_, h21_, hI⟩
          exact ⟨fun _ => rfl, h1_, h2_, h3_, h4_, h5_, h6_, h7_, h8_, h9_, h10_, h11_, h12_, h13_, h14_, h15_, h16_, h17_, h18_, h19_, h20_, h21_, hI⟩
        · intro D hD_  x35 x34 x33 x32 x31 x30 x29 x28 x27 x26 x25 x24 x23 x22 x21 x20 x19 x18 x17 x16 x15 x14 w_
          rintro ⟨h0_, h1_, h2_, h3_, h4_, h5_, h6_, h7_, h8_, h9_, h10_, h11_, h12_, h13_, h14_, h15_, h16_, h17_, h18_, h19_, h20_, h21_, hI⟩
          exact ⟨h0_, fun _ => rfl, h2_, h3_, h4_, h5_, h6_, h7_, h8_, h9_, h10_, h11_, h12_, h13_, h14_, h15_, h16_, h17_, h18_, h19_, h20_, h21_, hI⟩
        · intro D hD_ d0_0 d1_1 x35 x34 x33 x32 x31 x30 x29 x28 x27 x26 x25 x24 x23 x22 x21 x20 x19 x18 x17 x16 x15 x14 w_
          rintro ⟨h0_, h1_, h2_, h3_, h4_, h5_, h6_, h7_, h8_, h9_, h10_, h11_, h12_, h13_, h14_, h15_, h16_, h17_, h18_, h19_, h20_, h21_, hI⟩
          obtain rfl := h0_ d0_0
          obtain rfl := h1_ d1_1
          refine r_indexAddr sl_SiClause hk' ?_
          exact ⟨h0_, h1_, fun _ => rfl, h3_, h4_, h5_, h6_, h7_, h8_, h9_, h10_, h11_, h12_, h13_, h14_, h15_, h16_, h17_, h18_, h19_, h20_, h21_, hI⟩
        · intro D hD_ d2_0 x35 x34 x33 x32 x31 x30 x29 x28 x27 x26 x25 x24 x23 x22 x21 x20 x19 x18 x17 x16 x15 x14 w_
          rintro ⟨h0_, h1_, h2_, h3_, h4_, h5_, h6_, h7_, h8_, h9_, h10_, h11_, h12_, h13_, h14_, h15_, h16_, h17_, h18_, h19_, h20_, h21_, hI⟩
          obtain rfl := h2_ d2_0
          refine r_field fo_iClause_0 ?_
          exact ⟨h0_, h1_, h2_, fun _ => rfl, h4_, h5_, h6_, h7_, h8_, h9_, h10_, h11_, h12_, h13_, h14_, h15_, h16_, h17_, h18_, h19_, h20_, h21_, hI⟩
        · intro D hD_ d3_0 x35 x34 x33 x32 x31 x30 x29 x28 x27 x26 x25 x24 x23 x22 x21 x20 x19 x18 x17 x16 x15 x14 w_
          rintro ⟨h0_, h1_, h2_, h3_, h4_, h5_, h6_, h7_, h8_, h9_, h10_, h11_, h12_, h13_, h14_, h15_, h16_, h17_, h18_, h19_, h20_, h21_, hI⟩
          obtain rfl := h3_ d3_0
          refine r_field fo_iTerm_2 ?_
          exact ⟨h0_, h1_, h2_, h3_, fun _ => rfl, h5_, h6_, h7_, h8_, h9_, h10_, h11_, h12_, h13_, h14_, h15_, h16_, h17_, h18_, h19_, h20_, h21_, hI⟩
        · intro D hD_ d4_0 x35 x34 x33 x32 x31 x30 x29 x28 x27 x26 x25 x24 x23 x22 x21 x20 x19 x18 x17 x16 x15 x14 w_
          rintro ⟨h0_, h1_, h2_, h3_, h4_, h5_, h6_, h7_, h8_, h9_, h10_, h11_, h12_, h13_, h14_, h15_, h16_, h17_, h18_, h19_, h20_, h21_, hI⟩
          obtain rfl := h4_ d4_0
          refine r_load sc_string (by rw [hI.cellS hS]; exact cellsAt_get hcs 2 _ rfl) ?_
          exact ⟨h0_, h1_, h2_, h3_, h4_, fun _ => rfl, h6_, h7_, h8_, h9_, h10_, h11_, h12_, h13_, h14_, h15_, h16_, h17_, h18_, h19_, h20_, h21_, hI⟩
        · intro D hD_  x35 x34 x33 x32 x31 x30 x29 x28 x27 x26 x25 x24 x23 x22 x21 x20 x19 x18 x17 x16 x15 x14 w_
          rintro ⟨h0_, h1_, h2_, h3_, h4_, h5_, h6_, h7_, h8_, h9_, h10_, h11_, h12_, h13_, h14_, h15_, h16_, h17_, h18_, h19_, h20_, h21_, hI⟩
          refine r_field fo_iTerm_2 ?_
          exact ⟨h0_, h1_, h2_, h3_, h4_, h5_, fun _ => rfl, h7_, h8_, h9_, h10_, h11_, h12_, h13_, h14_, h15_, h16_, h17_, h18_, h19_, h20_, h21_, hI⟩
        · intro D hD_ d6_0 x35 x34 x33 x32 x31 x30 x29 x28 x27 x26 x25 x24 x23 x22 x21 x20 x19 x18 x17 x16 x15 x14 w_
          rintro ⟨h0_, h1_, h2_, h3_, h4_, h5_, h6_, h7_, h8_, h9_, h10_, h11_, h12_, h13_, h14_, h15_, h16_, h17_, h18_, h19_, h20_, h21_, hI⟩
          obtain rfl := h6_ d6_0
          refine r_loadL hI 0 sc_string rfl rfl ?_
          exact ⟨h0_, h1_, h2_, h3_, h4_, h5_, h6_, fun _ => rfl, h8_, h9_, h10_, h11_, h12_, h13_, h14_, h15_, h16_, h17_, h18_, h19_, h20_, h21_, hI⟩
        · intro D hD_ d5_0 d7_1 x35 x34 x33 x32 x31 x30 x29 x28 x27 x26 x25 x24 x23 x22 x21 x20 x19 x18 x17 x16 x15 x14 w_
          rintro ⟨h0_, h1_, h2_, h3_, h4_, h5_, h6_, h7_, h8_, h9_, h10_, h11_, h12_, h13_, h14_, h15_, h16_, h17_, h18_, h19_, h20_, h21_, hI⟩
          obtain rfl := h5_ d5_0
          obtain rfl := h7_ d7_1
          refine r_seql ?_; rw [hq]
          exact ⟨h0_, h1_, h2_, h3_, h4_, h5_, h6_, h7_, fun _ => rfl, h9_, h10_, h11_, h12_, h13_, h14_, h15_, h16_, h17_, h18_, h19_, h20_, h21_, hI⟩
        · intro D hD_ d8_0 x35 x34 x33 x32 x31 x30 x29 x28 x27 x26 x25 x24 x23 x22 x21 x20 x19 x18 x17 x16 x15 x14 w_
          rintro ⟨h0_, h1_, h2_, h3_, h4_, h5_, h6_, h7_, h8_, h9_, h10_, h11_, h12_, h13_, h14_, h15_, h16_, h17_, h18_, h19_, h20_, h21_, hI⟩
          obtain rfl := h8_ d8_0
          exact ⟨h0_, h1_, h2_, h3_, h4_, h5_, h6_, h7_, h8_, fun _ => rfl, h10_, h11_, h12_, h13_, h14_, h15_, h16_, h17_, h18_, h19_, h20_, h21_, hI⟩
        · intro D hD_ d9_0 x35 x34 x33 x32 x31 x30 x29 x28 x27 x26 x25 x24 x23 x22 x21 x20 x19 x18 x17 x16 x15 x14 w_
          rintro ⟨h0_, h1_, h2_, h3_, h4_, h5_, h6_, h7_, h8_, h9_, h10_, h11_, h12_, h13_, h14_, h15_, h16_, h17_, h18_, h19_, h20_, h21_, hI⟩
          obtain rfl := h9_ d9_0
          refine guard_true ?_
          exact ⟨h0_, h1_, h2_, h3_, h4_, h5_, h6_, h7_, h8_, h9_, fun _ => rfl, h11_, h12_, h13_, h14_, h15_, h16_, h17_, h18_, h19_, h20_, h21_, hI⟩
        · intro D hD_ d9_0 x35 x34 x33 x32 x31 x30 x29 x28 x27 x26 x25 x24 x23 x22 x21 x20 x19 x18 x17 x16 x15 x14 w_
          rintro ⟨h0_, h1_, h2_, h3_, h4_, h5_, h6_, h7_, h8_, h9_, h10_, h11_, h12_, h13_, h14_, h15_, h16_, h17_, h18_, h19_, h20_, h21_, hI⟩
          obtain rfl := h9_ d9_0
          refine guard_true ?_
          exact ⟨h0_, h1_, h2_, h3_, h4_, h5_, h6_, h7_, h8_, h9_, h10_, fun _ => rfl, h12_, h13_, h14_, h15_, h16_, h17_, h18_, h19_, h20_, h21_, hI⟩
        · intro D hD_ d10_0 d11_1 d9_2 x35 x34 x33 x32 x31 x30 x29 x28 x27 x26 x25 x24 x23 x22 x21 x20 x19 x18 x17 x16 x15 x14 w_
          rintro ⟨h0_, h1_, h2_, h3_, h4_, h5_, h6_, h7_, h8_, h9_, h10_, h11_, h12_, h13_, h14_, h15_, h16_, h17_, h18_, h19_, h20_, h21_, hI⟩
          obtain rfl := h10_ d10_0
          obtain rfl := h11_ d11_1
          obtain rfl := h9_ d9_2
          refine guard_true ?_; refine r_indexAddr sl_SiClause hk' ?_
          exact ⟨h0_, h1_, h2_, h3_, h4_, h5_, h6_, h7_, h8_, h9_, h10_, h11_, fun _ => rfl, h13_, h14_, h15_, h16_, h17_, h18_, h19_, h20_, h21_, hI⟩
        · intro D hD_ d12_0 d9_1 x35 x34 x33 x32 x31 x30 x29 x28 x27 x26 x25 x24 x23 x22 x21 x20 x19 x18 x17 x16 x15 x14 w_
          rintro ⟨h0_, h1_, h2_, h3_, h4_, h5_, h6_, h7_, h8_, h9_, h10_, h11_, h12_, h13_, h14_, h15_, h16_, h17_, h18_, h19_, h20_, h21_, hI⟩
          obtain rfl := h12_ d12_0
          obtain rfl := h9_ d9_1
          refine guard_true ?_; refine r_field fo_iClause_0 ?_
          exact ⟨h0_, h1_, h2_, h3_, h4_, h5_, h6_, h7_, h8_, h9_, h10_, h11_, h12_, fun _ => rfl, h14_, h15_, h16_, h17_, h18_, h19_, h20_, h21_, hI⟩
        · intro D hD_ d13_0 d9_1 x35 x34 x33 x32 x31 x30 x29 x28 x27 x26 x25 x24 x23 x22 x21 x20 x19 x18 x17 x16 x15 x14 w_
          rintro ⟨h0_, h1_, h2_, h3_, h4_, h5_, h6_, h7_, h8_, h9_, h10_, h11_, h12_, h13_, h14_, h15_, h16_, h17_, h18_, h19_, h20_, h21_, hI⟩
          obtain rfl := h13_ d13_0
          obtain rfl := h9_ d9_1
          refine guard_true ?_; refine r_field fo_iTerm_3 ?_
          exact ⟨h0_, h1_, h2_, h3_, h4_, h5_, h6_, h7_, h8_, h9_, h10_, h11_, h12_, h13_, fun _ => rfl, h15_, h16_, h17_, h18_, h19_, h20_, h21_, hI⟩
        · intro D hD_ d14_0 d9_1 x35 x34 x33 x32 x31 x30 x29 x28 x27 x26 x25 x24 x23 x22 x21 x20 x19 x18 x17 x16 x15 x14 w_
          rintro ⟨h0_, h1_, h2_, h3_, h4_, h5_, h6_, h7_, h8_, h9_, h10_, h11_, h12_, h13_, h14_, h15_, h16_, h17_, h18_, h19_, h20_, h21_, hI⟩
          obtain rfl := h14_ d14_0
          obtain rfl := h9_ d9_1
          refine guard_true ?_; refine r_load sc_SiTerm (by rw [hI.cellS hS]; exact cellsAt_get hcs 3 _ rfl) ?_
          exact ⟨h0_, h1_, h2_, h3_, h4_, h5_, h6_, h7_, h8_, h9_, h10_, h11_, h12_, h13_, h14_, fun _ => rfl, h16_, h17_, h18_, h19_, h20_, h21_, hI⟩
        · intro D hD_ d15_0 d9_1 x35 x34 x33 x32 x31 x30 x29 x28 x27 x26 x25 x24 x23 x22 x21 x20 x19 x18 x17 x16 x15 x14 w_
          rintro ⟨h0_, h1_, h2_, h3_, h4_, h5_, h6_, h7_, h8_, h9_, h10_, h11_, h12_, h13_, h14_, h15_, h16_, h17_, h18_, h19_, h20_, h21_, hI⟩
          obtain rfl := h15_ d15_0
          obtain rfl := h9_ d9_1
          refine guard_true ?_; refine r_lenSl hk1 sl_SiTerm ?_
          exact ⟨h0_, h1_, h2_, h3_, h4_, h5_, h6_, h7_, h8_, h9_, h10_, h11_, h12_, h13_, h14_, h15_, fun _ => rfl, h17_, h18_, h19_, h20_, h21_, hI⟩
        · intro D hD_ d9_0 x35 x34 x33 x32 x31 x30 x29 x28 x27 x26 x25 x24 x23 x22 x21 x20 x19 x18 x17 x16 x15 x14 w_
          rintro ⟨h0_, h1_, h2_, h3_, h4_, h5_, h6_, h7_, h8_, h9_, h10_, h11_, h12_, h13_, h14_, h15_, h16_, h17_, h18_, h19_, h20_, h21_, hI⟩
          obtain rfl := h9_ d9_0
          refine guard_true ?_; refine r_field fo_iTerm_3 ?_
          exact ⟨h0_, h1_, h2_, h3_, h4_, h5_, h6_, h7_, h8_, h9_, h10_, h11_, h12_, h13_, h14_, h15_, h16_, fun _ => rfl, h18_, h19_, h20_, h21_, hI⟩
        · intro D hD_ d17_0 d9_1 x35 x34 x33 x32 x31 x30 x29 x28 x27 x26 x25 x24 x23 x22 x21 x20 x19 x18 x17 x16 x15 x14 w_
          rintro ⟨h0_, h1_, h2_, h3_, h4_, h5_, h6_, h7_, h8_, h9_, h10_, h11_, h12_, h13_, h14_, h15_, h16_, h17_, h18_, h19_, h20_, h21_, hI⟩
          obtain rfl := h17_ d17_0
          obtain rfl := h9_ d9_1
          refine guard_true ?_; refine r_loadL hI 0 sc_SiTerm rfl rfl ?_
          exact ⟨h0_, h1_, h2_, h3_, h4_, h5_, h6_, h7_, h8_, h9_, h10_, h11_, h12_, h13_, h14_, h15_, h16_, h17_, fun _ => rfl, h19_, h20_, h21_, hI⟩
        · intro D hD_ d18_0 d9_1 x35 x34 x33 x32 x31 x30 x29 x28 x27 x26 x25 x24 x23 x22 x21 x20 x19 x18 x17 x16 x15 x14 w_
          rintro ⟨h0_, h1_, h2_, h3_, h4_, h5_, h6_, h7_, h8_, h9_, h10_, h11_, h12_, h13_, h14_, h15_, h16_, h17_, h18_, h19_, h20_, h21_, hI⟩
          obtain rfl := h18_ d18_0
          obtain rfl := h9_ d9_1
          refine guard_true ?_; refine r_lenSl hgk sl_SiTerm ?_
          exact ⟨h0_, h1_, h2_, h3_, h4_, h5_, h6_, h7_, h8_, h9_, h10_, h11_, h12_, h13_, h14_, h15_, h16_, h17_, h18_, fun _ => rfl, h20_, h21_, hI⟩
        · intro D hD_ d16_0 d19_1 d9_2 x35 x34 x33 x32 x31 x30 x29 x28 x27 x26 x25 x24 x23 x22 x21 x20 x19 x18 x17 x16 x15 x14 w_
          rintro ⟨h0_, h1_, h2_, h3_, h4_, h5_, h6_, h7_, h8_, h9_, h10_, h11_, h12_, h13_, h14_, h15_, h16_, h17_, h18_, h19_, h20_, h21_, hI⟩
          obtain rfl := h16_ d16_0
          obtain rfl := h19_ d19_1
          obtain rfl := h9_ d9_2
          refine guard_true ?_; refine r_eql ?_
          exact ⟨h0_, h1_, h2_, h3_, h4_, h5_, h6_, h7_, h8_, h9_, h10_, h11_, h12_, h13_, h14_, h15_, h16_, h17_, h18_, h19_, fun _ => rfl, h21_, hI⟩
        · intro D hD_ d9_0 d20_1 x35 x34 x33 x32 x31 x30 x29 x28 x27 x26 x25 x24 x23 x22 x21 x20 x19 x18 x17 x16 x15 x14 w_
          rintro ⟨h0_, h1_, h2_, h3_, h4_, h5_, h6_, h7_, h8_, h9_, h10_, h11_, h12_, h13_, h14_, h15_, h16_, h17_, h18_, h19_, h20_, h21_, hI⟩
          obtain rfl := h9_ d9_0
          obtain rfl := h20_ d20_1
          refine r_pickT ?_
          exact ⟨h0_, h1_, h2_, h3_, h4_, h5_, h6_, h7_, h8_, h9_, h10_, h11_, h12_, h13_, h14_, h15_, h16_, h17_, h18_, h19_, h20_, fun _ => rfl, hI⟩
        intro D d21_ d20_ d19_ d18_ d17_ d16_ d15_ d14_ d13_ d12_ d11_ d10_ d9_ d8_ d7_ d6_ d5_ d4_ d3_ d2_ d1_ d0_ x35 x34 x33 x32 x31 x30 x29 x28 x27 x26 x25 x24 x23 x22 x21 x20 x19 x18 x17 x16 x15 x14 w_
        rintro ⟨h0_, h1_, h2_, h3_, h4_, h5_, h6_, h7_, h8_, h9_, h10_, h11_, h12_, h13_, h14_, h15_, h16_, h17_, h18_, h19_, h20_, h21_, hI⟩
        obtain rfl := h21_ d21_
        obtain rfl := h20_ d20_
        obtain rfl := h19_ d19_
        obtain rfl := h18_ d18_
        obtain rfl := h17_ d17_
        obtain rfl := h16_ d16_
        obtain rfl := h15_ d15_
        obtain rfl := h14_ d14_
        obtain rfl := h13_ d13_
        obtain rfl := h12_ d12_
        obtain rfl := h11_ d11_
        obtain rfl := h10_ d10_
        obtain rfl := h9_ d9_
        obtain rfl := h8_ d8_
        obtain rfl := h7_ d7_
        obtain rfl := h6_ d6_
        obtain rfl := h5_ d5_
        obtain rfl := h4_ d4_
        obtain rfl := h3_ d3_
        obtain rfl := h2_ d2_
        obtain rfl := h1_ d1_
        obtain rfl := h0_ d0_
        clear h0_ h1_ h2_ h3_ h4_ h5_ h6_ h7_ h8_ h9_ h10_ h11_ h12_ h13_ h14_ h15_ h16_ h17_ h18_ h19_ h20_ h21_
        refine condV (fun hb => ?_) (fun hb => ?_)
        · refine r_slice1 hI mk_Sint rfl (by omega) (by omega) fun b w' hI => ?_
          refine r_append hI 1 (k := 1) [.int .i64 k] mk_Sint (by omega) rfl rfl ?_ ?_ (by omega) (by omega) fun v' w' hI => ?_
          · intro j u hj
            rw [hI.cellL (i := 2) rfl]
            match j with
            | 0 => simpa [Value.cells] using hj
            | j + 1 => simp at hj
          · simp [Value.oneCell']
          · rw [ints_snoc] at hI
            have hI := hI.pick [true, true, false]
            rw [hf, if_pos hb]
            have e : Item.row v' t_int 1 (l.length + 1) (ints (l ++ [(k : Int)])) = rowI v' (l ++ [(k : Int)]) := by simp [rowI]
            rw [show List.length l + 1 = l.length + 1 from rfl, e] at hI
            exact hI
        · rw [hf, if_neg (by rw [hb]; decide)]
          exact hI
    intro t5 _ _ _ _ _ _ _ _ _ _ _ _ _ _ _ _ _ _ _ _ _ _ _ _ _ _ w' hI
    refine r_add (by omega) ?_
    refine ⟨⟨k + 1, _, hk', rfl, ?_, ?_, hI⟩, by simp [intOf]; omega⟩
    · rw [posOf_step (fun c => eqPd (predT c.head) (predT (.mk gk gn gs gks))) p k hk' l, hrel]
    · split
      · simp; omega
      · omega
  · have : k = p.length := by omega
    subst this
    rw [List.drop_length, posOf, List.append_nil] at hrel
    subst hrel
    exact ⟨_, _, _, rfl, hI.pick [false, true], Ext.refl _ _ _, rfl, rfl⟩

end Go.Proofs.Ytnoieadimkgjcaa

/- Lists of predicates: asked and grown, on both sides. -/
namespace Go.Proofs.Ytnoieadimkgjcaa
open Go Go.RowKit
attribute [local irreducible] Run CondV GuardV LoadV

def pds (l : List Pd) : List Value := l.flatMap Pd.cells
abbrev rowP (v : Value) (l : List Pd) : Item := .row v t_iPred 2 l.length (pds l)
theorem pds_snoc (l : List Pd) (x : Pd) : pds l ++ x.cells = pds (l ++ [x]) := by simp [pds]
theorem RowRd.preds {S : Store} {v : Value} {e : TypeId} {l : List Pd} (h : RowRd S v e 2 l.length (pds l)) : RdSl S 2 RdPd v l :=
  RowRd.rd (f := Pd.cells) (fun _ => rfl) (fun _ _ => rfl) h
def hasP (l : List Pd) (x : Pd) : Bool := l.any fun y => eqPd x y
def addP (l : List Pd) (x : Pd) : List Pd := if hasP l x = true then l else l ++ [x]
theorem eqPd_comm (x y : Pd) : eqPd x y = eqPd y x := by
  rw [eqPd_iff, eqPd_iff, Bool.eq_iff_iff]
  simp only [decide_eq_true_eq]
  exact ⟨Eq.symm, Eq.symm⟩

theorem l14Has_calls (x : Pd) {l : List Pd} {S : Store} {v : Value} (h : RdSl S 2 RdPd v l) : Pure Try.prog n_s_l14Has [v, .agg x.cells.toArray] S (.bool (hasP l x)) := by
  intro w hI
  have hlen := h.le
  simp only [maxLen] at hlen
  obtain ⟨xs, xn⟩ := x
  refine calls_s_l14Has ?_
  unfold sh_s_l14Has
  refine r_box hI fun b3 w' hI => ?_
  have hI : Inv w [] [.blk b3 (.cells #[.string xs, .int .i64 xn] t_iPred)] S w' := hI
  refine ⟨fun i w' => ∃ k : Nat, k ≤ l.length ∧ i = .int .i64 k ∧ hasP (l.drop k) ⟨xs, xn⟩ = hasP l ⟨xs, xn⟩ ∧ Inv w [] [.blk b3 (.cells #[.string xs, .int .i64 xn] t_iPred)] S w', fun i _ => l.length - (intOf i).toNat, ⟨0, Nat.zero_le _, rfl, rfl, hI⟩, ?_⟩
  intro t5 _ _ _ t17 t16 t15 t14 t13 t12 _ _ _ _ w'
  rintro ⟨k, hk, rfl, hrel, hI⟩
  refine r_lenSl h sl_SiPred ?_
  refine r_lss ?_
  refine condP (fun hki => ?_) (fun hki => ?_)
  · have hk' : k < l.length := by omega
    have hstep : hasP (l.drop k) ⟨xs, xn⟩ = (eqPd ⟨xs, xn⟩ l[k] || hasP (l.drop (k + 1)) ⟨xs, xn⟩) := any_drop _ l k hk'
    obtain ⟨b, o, cap, c, E, fz, rfl, hS, hR⟩ := h.at_ hk'
    have hR' : cellsAt c (o + k * 2) 2 = [.string l[k].name, .int .i64 l[k].arity] := hR
    refine ⟨fun D x17 x16 x15 x14 x13 x12 w_ => (D 0 = true → x12 = .slice (some ⟨b, o, none⟩) l.length cap) ∧ (D 1 = true → x13 = .int .i64 k) ∧ (D 2 = true → x14 = .pointer (some ⟨b, o + k * 2, none⟩)) ∧ (D 3 = true → x15 = .agg #[.string l[k].name, .int .i64 l[k].arity]) ∧ (D 4 = true → x16 = .agg #[.string xs, .int .i64 xn]) ∧ (D 5 = true → x17 = .bool (eqPd l[k] ⟨xs, xn⟩)) ∧ Inv w [] [.blk b3 (.cells #[.string xs, .int .i64 xn] t_iPred)] S w_, ⟨fun h => Bool.noConfusion h, fun h => Bool.noConfusion h, fun h => Bool.noConfusion h, fun h => Bool.noConfusion h, fun h => Bool.noConfusion h, fun h => Bool.noConfusion h, hI.draw⟩, ⟨?_, ?_, ?_, ?_, ?_, ?_, trivial⟩, ?_⟩
    · intro D hD_  x17 x16 x15 x14 x13 x12 w_
      rintro ⟨h0_, h1_, h2_, h3_, h4_, h5_, hI⟩
      exact ⟨fun _ => rfl, h1_, h2_, h3_, h4_, h5_, hI⟩
    · intro D hD_  x17 x16 x15 x14 x13 x12 w_
      rintro ⟨h0_, h1_, h2_, h3_, h4_, h5_, hI⟩
      exact ⟨h0_, fun _ => rfl, h2_, h3_, h4_, h5_, hI⟩
    · intro D hD_ d0_0 d1_1 x17 x16 x15 x14 x13 x12 w_
      rintro ⟨h0_, h1_, h2_, h3_, h4_, h5_, hI⟩
      obtain rfl := h0_ d0_0
      obtain rfl := h1_ d1_1
      refine r_indexAddr sl_SiPred hk' ?_
      exact ⟨h0_, h1_, fun _ => rfl, h3_, h4_, h5_, hI⟩
    · intro D hD_ d2_0 x17 x16 x15 x14 x13 x12 w_
      rintro ⟨h0_, h1_, h2_, h3_, h4_, h5_, hI⟩
      obtain rfl := h2_ d2_0
      refine r_loadA (cs := [.string l[k].name, .int .i64 l[k].arity]) ag_iPred rfl (fun j v hj => by rw [hI.cellS hS]; exact cellsAt_get hR' j v hj) ?_
      exact ⟨h0_, h1_, h2_, fun _ => rfl, h4_, h5_, hI⟩
    · intro D hD_  x17 x16 x15 x14 x13 x12 w_
      rintro ⟨h0_, h1_, h2_, h3_, h4_, h5_, hI⟩
      refine r_loadW hI 0 ag_iPred rfl rfl ?_
      exact ⟨h0_, h1_, h2_, h3_, fun _ => rfl, h5_, hI⟩
    · intro D hD_ d3_0 d4_1 x17 x16 x15 x14 x13 x12 w_
      rintro ⟨h0_, h1_, h2_, h3_, h4_, h5_, hI⟩
      obtain rfl := h3_ d3_0
      obtain rfl := h4_ d4_1
      refine r_peql ?_
      exact ⟨h0_, h1_, h2_, h3_, h4_, fun _ => rfl, hI⟩
    intro D d5_ d4_ d3_ d2_ d1_ d0_ x17 x16 x15 x14 x13 x12 w_
    rintro ⟨h0_, h1_, h2_, h3_, h4_, h5_, hI⟩
    obtain rfl := h5_ d5_
    obtain rfl := h4_ d4_
    obtain rfl := h3_ d3_
    obtain rfl := h2_ d2_
    obtain rfl := h1_ d1_
    obtain rfl := h0_ d0_
    clear h0_ h1_ h2_ h3_ h4_ h5_
    refine condV (fun hb => done hI ?_) (fun hb => ?_)
    · rw [← hrel, hstep, eqPd_comm, hb]; rfl
    · refine r_add (by omega) ?_
      exact ⟨⟨k + 1, hk', rfl, by rw [← hrel, hstep, eqPd_comm, hb]; rfl, hI⟩, by simp [intOf]; omega⟩
  · have : k = l.length := by omega
    subst this
    exact done hI (by rw [← hrel, List.drop_length]; rfl)
theorem Index_Pred_calls (x : Pd) {l : List Pd} {S : Store} {v : Value} (h : RdSl S 2 RdPd v l) :
    Pure Try.prog n_x_Index_Pred [v, .agg x.cells.toArray] S (.int .i64 (indexF (σ := Unit) (fun _ y => (eqPd x y, ())) () l 0).1) := by
  intro w hI
  have hlen := h.le
  simp only [maxLen] at hlen
  obtain ⟨xs, xn⟩ := x
  refine calls_x_Index_Pred ?_
  unfold sh_x_Index_Pred
  refine r_box hI fun b3 w' hI => ?_
  have hI : Inv w [] [.blk b3 (.cells #[.string xs, .int .i64 xn] t_iPred)] S w' := hI
  refine r_lenSl h sl_SiPred ?_
  refine ⟨fun i w' => ∃ k : Nat, k ≤ l.length ∧ i = .int .i64 k ∧ indexF (σ := Unit) (fun _ y => (eqPd ⟨xs, xn⟩ y, ())) () (l.drop k) k = indexF (σ := Unit) (fun _ y => (eqPd ⟨xs, xn⟩ y, ())) () l 0 ∧ Inv w [] [.blk b3 (.cells #[.string xs, .int .i64 xn] t_iPred)] S w',
    fun i _ => l.length - (intOf i).toNat, ⟨0, Nat.zero_le _, rfl, rfl, hI⟩, ?_⟩
  intro t8 _ _ _ t16 t15 t14 t13 t12 t11 _ _ _ w'
  rintro ⟨k, hk, rfl, hrel, hI⟩
  refine r_lss ?_
  refine condP (fun hki => ?_) (fun hki => ?_)
  · have hk' : k < l.length := by omega
    rw [List.drop_eq_getElem_cons hk', indexF] at hrel
    obtain ⟨b, o, cap, c, E, fz, rfl, hS, hR⟩ := h.at_ hk'
    have hR' : cellsAt c (o + k * 2) 2 = [.string l[k].name, .int .i64 l[k].arity] := hR
    refine ⟨fun D x16 x15 x14 x13 x12 x11 w_ => (D 0 = true → x11 = .agg #[.string xs, .int .i64 xn]) ∧ (D 1 = true → x12 = .slice (some ⟨b, o, none⟩) l.length cap) ∧ (D 2 = true → x13 = .int .i64 k) ∧ (D 3 = true → x14 = .pointer (some ⟨b, o + k * 2, none⟩)) ∧ (D 4 = true → x15 = .agg #[.string l[k].name, .int .i64 l[k].arity]) ∧ (D 5 = true → x16 = .bool (eqPd ⟨xs, xn⟩ l[k])) ∧ Inv w [] [.blk b3 (.cells #[.string xs, .int .i64 xn] t_iPred)] S w_, ⟨fun h => Bool.noConfusion h, fun h => Bool.noConfusion h, fun h => Bool.noConfusion h, fun h => Bool.noConfusion h, fun h => Bool.noConfusion h, fun h => Bool.noConfusion h, hI.draw⟩, ⟨?_, ?_, ?_, ?_, ?_, ?_, trivial⟩, ?_⟩
    · intro D hD_  x16 x15 x14 x13 x12 x11 w_
      rintro ⟨h0_, h1_, h2_, h3_, h4_, h5_, hI⟩
      refine r_loadW hI 0 ag_iPred rfl rfl ?_
      exact ⟨fun _ => rfl, h1_, h2_, h3_, h4_, h5_, hI⟩
    · intro D hD_  x16 x15 x14 x13 x12 x11 w_
      rintro ⟨h0_, h1_, h2_, h3_, h4_, h5_, hI⟩
      exact ⟨h0_, fun _ => rfl, h2_, h3_, h4_, h5_, hI⟩
    · intro D hD_  x16 x15 x14 x13 x12 x11 w_
      rintro ⟨h0_, h1_, h2_, h3_, h4_, h5_, hI⟩
      exact ⟨h0_, h1_, fun _ => rfl, h3_, h4_, h5_, hI⟩
    · intro D hD_ d1_0 d2_1 x16 x15 x14 x13 x12 x11 w_
      rintro ⟨h0_, h1_, h2_, h3_, h4_, h5_, hI⟩
      obtain rfl := h1_ d1_0
      obtain rfl := h2_ d2_1
      refine r_indexAddr sl_SiPred hk' ?_
      exact ⟨h0_, h1_, h2_, fun _ => rfl, h4_, h5_, hI⟩
    · intro D hD_ d3_0 x16 x15 x14 x13 x12 x11 w_
      rintro ⟨h0_, h1_, h2_, h3_, h4_, h5_, hI⟩
      obtain rfl := h3_ d3_0
      refine r_loadA (cs := [.string l[k].name, .int .i64 l[k].arity]) ag_iPred rfl (fun j v hj => by rw [hI.cellS hS]; exact cellsAt_get hR' j v hj) ?_
      exact ⟨h0_, h1_, h2_, h3_, fun _ => rfl, h5_, hI⟩
    · intro D hD_ d0_0 d4_1 x16 x15 x14 x13 x12 x11 w_
      rintro ⟨h0_, h1_, h2_, h3_, h4_, h5_, hI⟩
      obtain rfl := h0_ d0_0
      obtain rfl := h4_ d4_1
      refine r_peql ?_
      exact ⟨h0_, h1_, h2_, h3_, h4_, fun _ => rfl, hI⟩
    intro D d5_ d4_ d3_ d2_ d1_ d0_ x16 x15 x14 x13 x12 x11 w_
    rintro ⟨h0_, h1_, h2_, h3_, h4_, h5_, hI⟩
    obtain rfl := h5_ d5_
    obtain rfl := h4_ d4_
    obtain rfl := h3_ d3_
    obtain rfl := h2_ d2_
    obtain rfl := h1_ d1_
    obtain rfl := h0_ d0_
    clear h0_ h1_ h2_ h3_ h4_ h5_
    refine condV (fun he => done hI ?_) (fun he => ?_)
    · rw [← hrel, if_pos (by simpa using he)]
    · refine r_add (by omega) ?_
      rw [if_neg (by simpa using he)] at hrel
      exact ⟨⟨k + 1, hk', rfl, hrel, hI⟩, by simp [intOf]; omega⟩
  · have : k = l.length := by omega
    subst this
    rw [List.drop_length, indexF] at hrel
    exact done hI (by rw [← hrel])
theorem Contains_Pred_calls (x : Pd) {l : List Pd} {S : Store} {v : Value} (h : RdSl S 2 RdPd v l) : Pure Try.prog n_x_Contains_Pred [v, .agg x.cells.toArray] S (.bool (hasP l x)) := by
  intro w hI
  obtain ⟨xs, xn⟩ := x
  refine calls_x_Contains_Pred ?_
  unfold sh_x_Contains_Pred
  refine r_box hI fun b3 w' hI => ?_
  refine r_loadW hI 0 ag_iPred rfl rfl ?_
  refine Run.callPure fn_x_Index_Pred nm_x_Index_Pred hI (Index_Pred_calls ⟨xs, xn⟩ h) fun w' hI => ?_
  refine r_geq (done hI ?_)
  rw [(indexF_any _ l () 0).1, anyF_pure]; rfl
abbrev PostP (S : Store) (r : List Pd) : Value → List Item → Store → Prop := fun v I' S' => I' = [rowP v r] ∧ S' = S
theorem addPred_calls (x : Pd) (l : List Pd) (v : Value) (S : Store) (hl : l.length ≤ 1000000000) : Tri Try.prog n_i_addPred [v, .agg x.cells.toArray] [rowP v l] S (PostP S (addP l x)) := by
  intro w hI
  obtain ⟨xs, xn⟩ := x
  refine calls_i_addPred ?_
  unfold sh_i_addPred
  refine r_box hI fun b3 w' hI => ?_
  have hI := hI.perm (M := [.blk b3 (.cells #[.string xs, .int .i64 xn] t_iPred), rowP v l]) (List.Perm.swap _ _ _)
  refine r_loadW hI 0 ag_iPred rfl rfl ?_
  obtain ⟨S1, hle, hrd, hI, hback⟩ := Inv.lend (A := [_]) hI
  refine Run.callPure fn_x_Contains_Pred nm_x_Contains_Pred hI (Contains_Pred_calls ⟨xs, xn⟩ hrd.preds) fun w' hI => ?_
  have hI := hback _ _ hI
  refine condV (fun hb => ?_) (fun hb => ?_)
  · rw [addP, if_pos hb]
    exact ⟨_, _, _, rfl, Inv.pick hI [false, true], Ext.refl _ _ _, rfl, rfl⟩
  · rw [addP, if_neg (by rw [hb]; decide)]
    refine r_loadW hI 0 ag_iPred rfl rfl ?_
    refine r_slice1 hI mk_SiPred rfl (by omega) (by omega) fun b w' hI => ?_
    refine r_append hI 1 (k := 2) [.string xs, .int .i64 xn] mk_SiPred (by omega) rfl rfl ?_ ?_ (by omega) (by omega) fun v' w' hI => ?_
    · intro j u hj
      rw [hI.cellL (i := 2) rfl]
      match j with
      | 0 | 1 => simpa [Value.cells] using hj
      | j + 2 => simp at hj
    · simp [Value.oneCell']
    · have hI := hI.pick [false, true, false]
      have e : Item.row v' t_iPred 2 (l.length + 1) (pds l ++ [.string xs, .int .i64 xn]) = rowP v' (l ++ [⟨xs, xn⟩]) := by
        rw [show ([.string xs, .int .i64 xn] : List Value) = Pd.cells ⟨xs, xn⟩ from rfl, pds_snoc]; simp [rowP]
      refine ⟨_, _, _, rfl, hI, Ext.refl _ _ _, ?_, rfl⟩
      show [Item.row v' t_iPred 2 (l.length + 1) (pds l ++ [.string xs, .int .i64 xn])] = _
      rw [e]

end Go.Proofs.Ytnoieadimkgjcaa

/- Marks in rows of predicates; trees lent and taken back. -/
namespace Go.Proofs.Ytnoieadimkgjcaa
open Go Go.RowKit

/- a tree of the function's own, handed to readers, and taken back -/
theorem Inv.lendAll {w0 w : World} {X : List Nat} {A : List Item} (M : Heaplet) {S : Store} (h : Inv w0 X (A ++ blks M) S w) :
    ∃ S', Sle S S' ∧ Ins S' M ∧ Inv w0 X A S' w ∧ ∀ B w', Inv w0 X B S' w' → Inv w0 X (B ++ blks M) S w' := by
  obtain ⟨S', h1, h2, h3, h4⟩ := Inv.publishAll M h
  have hnd := h.nd
  rw [feet_append, List.nodup_append] at hnd
  refine ⟨S', h2, h3, h1, fun B w' hB => ⟨hB.size, hB.os, hB.tape, hB.output, hB.old, fun it hit => ?_, ?_, fun b hb => ?_, fun b o hb => ⟨(hB.pub b o (h2 b o hb)).1, fun hb' => ?_⟩⟩⟩
  · rcases List.mem_append.1 hit with hit | hit
    · exact hB.its it hit
    · obtain ⟨p, hp, rfl⟩ := List.mem_map.1 hit
      exact (hB.pub _ _ (h3 p hp)).1
  · rw [feet_append, List.nodup_append]
    refine ⟨hB.nd, hnd.2.1, fun a ha b hb e => ?_⟩
    subst e
    obtain ⟨p, hp, rfl⟩ := mem_feet_blks.1 hb
    exact (hB.pub _ _ (h3 p hp)).2 ha
  · rw [feet_append] at hb
    rcases List.mem_append.1 hb with hb | hb
    · exact hB.new b hb
    · exact h.new b (by rw [feet_append]; exact List.mem_append_right _ hb)
  · rw [feet_append] at hb'
    rcases List.mem_append.1 hb' with hb' | hb'
    · exact (hB.pub b o (h2 b o hb)).2 hb'
    · exact (h.pub b o hb).2 (by rw [feet_append]; exact List.mem_append_right _ hb')
/- a row seen as its block -/
theorem Inv.openRow {w0 w : World} {X : List Nat} {A : List Item} {S : Store} {v : Value} {e : TypeId} {k n : Nat} {xs : List Value} (h : Inv w0 X (A ++ [.row v e k n xs]) S w) :
    xs.length = n * k ∧ ((v = .slice none 0 0 ∧ n = 0) ∨ ∃ g cap cur, v = .slice (some ⟨g, 0, none⟩) n cap ∧ n ≤ cap ∧ cap ≤ maxLen ∧ cur.size = cap * k ∧ cur.toList.take (n * k) = xs ∧ Inv w0 X (A ++ [.blk g (.cells cur e)]) S w) := by
  have hm : w.ownsRow 0 e k v n xs := h.its (.row v e k n xs) (by simp)
  obtain ⟨hl, hm⟩ := hm
  refine ⟨hl, ?_⟩
  rcases hm with hn | ⟨g, cap, cur, rfl, _, hg, hnc, hcm, hcs, ht⟩
  · exact .inl hn
  · have hf : feet (A ++ [Item.blk g (.cells cur e)]) = feet (A ++ [Item.row (.slice (some ⟨g, 0, none⟩) n cap) e k n xs]) := by
      simp [feet, Item.foot, Value.ownBlock]
    refine .inr ⟨g, cap, cur, rfl, hnc, hcm, hcs, ht, h.size, h.os, h.tape, h.output, h.old, fun it hit => ?_, by rw [hf]; exact h.nd, by rw [hf]; exact h.new, by rw [hf]; exact h.pub⟩
    rcases List.mem_append.1 hit with hit | hit
    · exact h.its it (List.mem_append_left _ hit)
    · simp at hit
      subst hit
      exact hg
theorem Inv.closeRow {w0 w : World} {X : List Nat} {A : List Item} {S : Store} {g cap k n : Nat} {cur : Array Value} {e : TypeId} (h : Inv w0 X (A ++ [.blk g (.cells cur e)]) S w) (hn : n ≤ cap) (hc : cap ≤ maxLen) (hs : cur.size = cap * k) :
    Inv w0 X (A ++ [.row (.slice (some ⟨g, 0, none⟩) n cap) e k n (cur.toList.take (n * k))]) S w := by
  have hg : w.heap[g]? = some (.cells cur e) := h.its (.blk g (.cells cur e)) (by simp)
  have hf : feet (A ++ [Item.row (.slice (some ⟨g, 0, none⟩) n cap) e k n (cur.toList.take (n * k))]) = feet (A ++ [Item.blk g (.cells cur e)]) := by
    simp [feet, Item.foot, Value.ownBlock]
  refine ⟨h.size, h.os, h.tape, h.output, h.old, fun it hit => ?_, by rw [hf]; exact h.nd, by rw [hf]; exact h.new, by rw [hf]; exact h.pub⟩
  rcases List.mem_append.1 hit with hit | hit
  · exact h.its it (List.mem_append_left _ hit)
  · simp at hit
    subst hit
    refine ⟨?_, .inr ⟨g, cap, cur, rfl, Nat.zero_le _, hg, hn, hc, hs, rfl⟩⟩
    rw [List.length_take, Array.length_toList, hs]
    exact Nat.min_eq_left (Nat.mul_le_mul_right k hn)

def mkPd : List Pd → Int → List Pd
  | [], _ => []
  | _ :: l, k => ⟨markS k, k + 1⟩ :: mkPd l (k + 2)
theorem mkPd_len : ∀ (l : List Pd) (k : Int), (mkPd l k).length = l.length
  | [], k => rfl
  | x :: l, k => by rw [mkPd]; simp [mkPd_len l]
theorem mkPd_at : ∀ (l : List Pd) (k : Int) (j : Nat) (h : j < (mkPd l k).length), (mkPd l k)[j] = ⟨markS (k + 2 * j), k + 2 * j + 1⟩
  | [], k, j, h => by simp [mkPd] at h
  | x :: l, k, 0, h => by simp [mkPd]
  | x :: l, k, j + 1, h => by
    simp only [mkPd, List.getElem_cons_succ]
    rw [mkPd_at l (k + 2) j (by simpa [mkPd] using h)]
    rw [show k + 2 + 2 * (j : Int) = k + 2 * ((j + 1 : Nat) : Int) by omega]
theorem cells_list {c : Array Value} {l : List Pd} (h : ∀ i (h : i < l.length), cellsAt c (i * 2) 2 = l[i].cells) : c.toList.take (l.length * 2) = pds l := by
  apply List.ext_getElem?
  intro i
  rw [List.getElem?_take]
  split
  · rename_i hi
    have hq : i / 2 < l.length := by omega
    have h1 := h (i / 2) hq
    have h2 := flat_at Pd.cells 2 (fun _ => rfl) l (i / 2) hq
    have e1 : (cellsAt c (i / 2 * 2) 2)[i % 2]? = c.toList[i]? := by
      rw [cellsAt, List.getElem?_take, if_pos (by omega), List.getElem?_drop]
      congr 1
      omega
    have e2 : (l[i / 2].cells)[i % 2]? = (pds l)[i]? := by
      rw [← h2, List.getElem?_take, if_pos (by omega), List.getElem?_drop, pds]
      congr 1
      omega
    rw [← e1, h1, e2]
  · rename_i hi
    have hl : (pds l).length = l.length * 2 := flat_len Pd.cells 2 (fun _ => rfl) l
    rw [List.getElem?_eq_none (by omega)]
section
attribute [local irreducible] Run CondV GuardV LoadV
theorem markPredS_calls {l : List Pd} {S : Store} {v : Value} {k : Int} (hk0 : 0 ≤ k) (hk : k + 2 * l.length ≤ 4611686018427387904) :
    Tri Try.prog n_l_markPredS [v, .int .i64 k] [rowP v l] S fun r I' S' => S' = S ∧ r = .int .i64 (k + 2 * l.length) ∧ I' = [rowP v (mkPd l k)] := by
  intro w hI
  refine calls_l_markPredS ?_
  unfold sh_l_markPredS
  obtain ⟨X, hX⟩ : ∃ X, X = feet [rowP v l] := ⟨_, rfl⟩
  rw [← hX] at hI ⊢
  obtain ⟨hl, ho⟩ := Inv.openRow (A := []) hI
  rcases ho with ⟨rfl, h0⟩ | ⟨g, cap, cur, rfl, hnc, hcm, hcs, ht, hI⟩
  · have : l = [] := List.eq_nil_of_length_eq_zero h0
    subst this
    refine ⟨fun i m w' => i = .int .i64 0 ∧ m = .int .i64 k ∧ Inv w X [rowP (.slice none 0 0) []] S w', fun _ _ _ => 0, ⟨rfl, rfl, hI⟩, ?_⟩
    intro t5 _ _ _ _ _ _ _ _ _ t1 _ _ _ _ _ _ _ _ _ _ _ _ w'
    rintro ⟨rfl, rfl, hI⟩
    refine r_len sl_SiPred ?_
    refine r_lss ?_
    refine condP (fun h => by simp at h) (fun _ => ?_)
    exact ⟨_, _, _, rfl, hI, Ext.refl _ _ _, rfl, by simp, rfl⟩
  · simp only [maxLen] at hcm
    refine ⟨fun i m w' => ∃ (j : Nat) (c' : Array Value), j ≤ l.length ∧ i = .int .i64 j ∧ m = .int .i64 (k + 2 * j) ∧ c'.size = cap * 2 ∧ (∀ i (h : i < (mkPd l k).length), i < j → cellsAt c' (i * 2) 2 = (mkPd l k)[i].cells) ∧ Inv w X [.blk g (.cells c' t_iPred)] S w',
      fun i _ _ => l.length - (intOf i).toNat, ⟨0, cur, Nat.zero_le _, rfl, by simp, hcs, fun i _ h => by omega, hI⟩, ?_⟩
    intro t5 _ _ _ _ _ _ _ _ _ t1 _ _ _ _ _ _ _ _ _ _ _ _ w'
    rintro ⟨j, c', hj, rfl, rfl, hcs', hdn, hI⟩
    refine r_len sl_SiPred ?_
    refine r_lss ?_
    refine condP (fun hji => ?_) (fun hji => ?_)
    · have hj' : j < l.length := by omega
      obtain ⟨c1, hc1⟩ : ∃ c1, c1 = putCells c' (j * 2 + 0) [.string (markS (k + 2 * j))] := ⟨_, rfl⟩
      obtain ⟨c2, hc2⟩ : ∃ c2, c2 = putCells c1 (j * 2 + 1) [.int .i64 (k + 2 * j + 1)] := ⟨_, rfl⟩
      have hs1 : c1.size = c'.size := by rw [hc1]; exact putCells_size _ _ _ (by simp; omega)
      have hs2 : c2.size = c'.size := by rw [hc2]; exact (putCells_size _ _ _ (by simp; omega)).trans hs1
      refine Run.callPure fn_l_markText nm_l_markText hI (markText_calls _ S (by omega)) fun w' hI => ?_
      refine r_indexAddr sl_SiPred hj' ?_
      refine r_field fo_iPred_0 ?_
      rw [Nat.zero_add]
      refine r_store hI 0 (n := 1) rfl (by decide +kernel) rfl (by omega) (by simp [Value.cells, Value.oneCell']) fun w' hI => ?_
      have hI : Inv w X [.blk g (.cells c1 t_iPred)] S w' := by rw [hc1]; exact hI
      refine r_add (by omega) ?_
      refine r_indexAddr sl_SiPred hj' ?_
      refine r_field fo_iPred_1 ?_
      rw [Nat.zero_add]
      refine r_store hI 0 (n := 1) rfl (by decide +kernel) rfl (by omega) (by simp [Value.cells, Value.oneCell']) fun w' hI => ?_
      have hI : Inv w X [.blk g (.cells c2 t_iPred)] S w' := by rw [hc2]; exact hI
      refine r_add (by omega) ?_
      refine r_add (by omega) ?_
      refine ⟨⟨j + 1, c2, hj', rfl, by congr 1; omega, by omega, fun i hi hij => ?_, hI⟩, by simp [intOf]; omega⟩
      by_cases e : i = j
      · subst e
        rw [mkPd_at, hc2, cellsAt_put1 (by omega) (by omega), hc1, cellsAt_put1 (by omega) (by omega)]
        obtain ⟨a, b, hab⟩ : ∃ a b, cellsAt c' (i * 2) 2 = [a, b] := by
          have hl2 : (cellsAt c' (i * 2) 2).length = 2 := by rw [cellsAt, List.length_take, List.length_drop, Array.length_toList]; omega
          match cellsAt c' (i * 2) 2, hl2 with
          | [a, b], _ => exact ⟨a, b, rfl⟩
        rw [hab]
        rfl
      · have : i * 2 + 2 ≤ j * 2 := by omega
        rw [hc2, cellsAt_put_ne (by simp; omega) (by simp; omega), hc1, cellsAt_put_ne (by simp; omega) (by simp; omega)]
        exact hdn i hi (by omega)
    · have : j = l.length := by omega
      subst this
      have hI := Inv.closeRow (A := []) (k := 2) (n := l.length) hI hnc (by simp only [maxLen]; omega) hcs'
      have hml := mkPd_len l k
      have hcl := cells_list (c := c') (l := mkPd l k) (fun i h => hdn i h (by omega))
      rw [hml] at hcl
      rw [hcl] at hI
      refine ⟨_, _, _, rfl, hI, Ext.refl _ _ _, rfl, rfl, ?_⟩
      simp [rowP, hml]
theorem heldPredS_calls {l : List Pd} {S : Store} {v : Value} {k : Int} (h : RdSl S 2 RdPd v (mkPd l k)) (hk0 : 0 ≤ k) (hk : k + 2 * l.length ≤ 4611686018427387904) :
    Pure Try.prog n_l_heldPredS [v, .int .i64 k] S (.int .i64 (k + 2 * l.length)) := by
  intro w hI
  have hlen := h.le
  have hml := mkPd_len l k
  simp only [maxLen] at hlen
  refine calls_l_heldPredS ?_
  unfold sh_l_heldPredS
  refine ⟨fun i m w' => ∃ (j : Nat), j ≤ l.length ∧ i = .int .i64 j ∧ m = .int .i64 (k + 2 * j) ∧ Inv w [] [] S w',
    fun i _ _ => l.length - (intOf i).toNat, ⟨0, Nat.zero_le _, rfl, by simp, hI⟩, ?_⟩
  intro t5 _ _ _ _ _ _ _ _ _ _ _ t1 _ _ _ _ _ _ _ _ _ _ _ _ _ _ _ w'
  rintro ⟨j, hj, rfl, rfl, hI⟩
  refine r_lenSl h sl_SiPred ?_
  refine r_lss ?_
  refine condP (fun hji => ?_) (fun hji => ?_)
  · have hj' : j < l.length := by omega
    have hjm : j < (mkPd l k).length := by omega
    obtain ⟨b, o, cap, c, E, fz, rfl, hS, hR⟩ := h.at_ hjm
    have hcell : cellsAt c (o + j * 2) 2 = [.string (markS (k + 2 * j)), .int .i64 (k + 2 * j + 1)] := by
      rw [mkPd_at] at hR
      exact hR
    refine ⟨fun D x19 x18 x17 x16 x15 x14 x13 x12 w_ => (D 0 = true → x12 = .slice (some ⟨b, o, none⟩) (mkPd l k).length cap) ∧ (D 1 = true → x13 = .int .i64 j) ∧ (D 2 = true → x14 = .pointer (some ⟨b, o + j * 2, none⟩)) ∧ (D 3 = true → x15 = .pointer (some ⟨b, o + j * 2, none⟩)) ∧ (D 4 = true → x16 = .string (markS (k + 2 * j))) ∧ (D 5 = true → x17 = .int .i64 (k + 2 * j)) ∧ (D 6 = true → x18 = .string (markS (k + 2 * j))) ∧ (D 7 = true → x19 = .bool false) ∧ Inv w [] [] S w_, ⟨fun h => Bool.noConfusion h, fun h => Bool.noConfusion h, fun h => Bool.noConfusion h, fun h => Bool.noConfusion h, fun h => Bool.noConfusion h, fun h => Bool.noConfusion h, fun h => Bool.noConfusion h, fun h => Bool.noConfusion h, hI.draw⟩, ⟨?_, ?_, ?_, ?_, ?_, ?_, ?_, ?_, trivial⟩, ?_⟩
    · intro D hD_  x19 x18 x17 x16 x15 x14 x13 x12 w_
      rintro ⟨h0_, h1_, h2_, h3_, h4_, h5_, h6_, h7_, hI⟩
      exact ⟨fun _ => rfl, h1_, h2_, h3_, h4_, h5_, h6_, h7_, hI⟩
    · intro D hD_  x19 x18 x17 x16 x15 x14 x13 x12 w_
      rintro ⟨h0_, h1_, h2_, h3_, h4_, h5_, h6_, h7_, hI⟩
      exact ⟨h0_, fun _ => rfl, h2_, h3_, h4_, h5_, h6_, h7_, hI⟩
    · intro D hD_ d0_0 d1_1 x19 x18 x17 x16 x15 x14 x13 x12 w_
      rintro ⟨h0_, h1_, h2_, h3_, h4_, h5_, h6_, h7_, hI⟩
      obtain rfl := h0_ d0_0
      obtain rfl := h1_ d1_1
      refine r_indexAddr sl_SiPred hjm ?_
      exact ⟨h0_, h1_, fun _ => rfl, h3_, h4_, h5_, h6_, h7_, hI⟩
    · intro D hD_ d2_0 x19 x18 x17 x16 x15 x14 x13 x12 w_
      rintro ⟨h0_, h1_, h2_, h3_, h4_, h5_, h6_, h7_, hI⟩
      obtain rfl := h2_ d2_0
      refine r_field fo_iPred_0 ?_
      exact ⟨h0_, h1_, h2_, fun _ => rfl, h4_, h5_, h6_, h7_, hI⟩
    · intro D hD_ d3_0 x19 x18 x17 x16 x15 x14 x13 x12 w_
      rintro ⟨h0_, h1_, h2_, h3_, h4_, h5_, h6_, h7_, hI⟩
      obtain rfl := h3_ d3_0
      refine r_load sc_string (by rw [hI.cellS hS]; exact cellsAt_get hcell 0 _ rfl) ?_
      exact ⟨h0_, h1_, h2_, h3_, fun _ => rfl, h5_, h6_, h7_, hI⟩
    · intro D hD_  x19 x18 x17 x16 x15 x14 x13 x12 w_
      rintro ⟨h0_, h1_, h2_, h3_, h4_, h5_, h6_, h7_, hI⟩
      exact ⟨h0_, h1_, h2_, h3_, h4_, fun _ => rfl, h6_, h7_, hI⟩
    · intro D hD_ d5_0 x19 x18 x17 x16 x15 x14 x13 x12 w_
      rintro ⟨h0_, h1_, h2_, h3_, h4_, h5_, h6_, h7_, hI⟩
      obtain rfl := h5_ d5_0
      refine Run.callPure fn_l_markText nm_l_markText hI (markText_calls _ S (by omega)) fun w_ hI => ?_
      exact ⟨h0_, h1_, h2_, h3_, h4_, h5_, fun _ => rfl, h7_, hI⟩
    · intro D hD_ d4_0 d6_1 x19 x18 x17 x16 x15 x14 x13 x12 w_
      rintro ⟨h0_, h1_, h2_, h3_, h4_, h5_, h6_, h7_, hI⟩
      obtain rfl := h4_ d4_0
      obtain rfl := h6_ d6_1
      refine r_sneq ?_; rw [decide_eq_true rfl]
      exact ⟨h0_, h1_, h2_, h3_, h4_, h5_, h6_, fun _ => rfl, hI⟩
    intro D d7_ d6_ d5_ d4_ d3_ d2_ d1_ d0_ x19 x18 x17 x16 x15 x14 x13 x12 w_
    rintro ⟨h0_, h1_, h2_, h3_, h4_, h5_, h6_, h7_, hI⟩
    obtain rfl := h7_ d7_
    obtain rfl := h6_ d6_
    obtain rfl := h5_ d5_
    obtain rfl := h4_ d4_
    obtain rfl := h3_ d3_
    obtain rfl := h2_ d2_
    obtain rfl := h1_ d1_
    obtain rfl := h0_ d0_
    clear h0_ h1_ h2_ h3_ h4_ h5_ h6_ h7_
    refine condV (fun hb => by cases hb) (fun _ => ?_)
    refine r_add (by omega) ?_
    refine r_indexAddr sl_SiPred hjm ?_
    refine r_field fo_iPred_1 ?_
    refine r_load sc_int (by rw [hI.cellS hS]; exact cellsAt_get hcell 1 _ rfl) ?_
    refine r_neq ?_
    refine condV (fun hb => by simp at hb) (fun _ => ?_)
    refine r_add (by omega) ?_
    refine r_add (by omega) ?_
    exact ⟨⟨j + 1, hj', rfl, by congr 1; omega, hI⟩, by simp [intOf]; omega⟩
  · have : j = l.length := by omega
    subst this
    exact done hI rfl
theorem eqPred_calls (x : Pd) (S : Store) : Pure Try.prog n_l_eqPred [.agg x.cells.toArray, .agg x.cells.toArray] S (.bool true) := by
  intro w hI
  obtain ⟨xs, xn⟩ := x
  refine calls_l_eqPred ?_
  unfold sh_l_eqPred
  refine r_box hI fun b1 w' hI => ?_
  refine r_box hI fun b2 w' hI => ?_
  refine r_fieldL hI 0 rfl fo_iPred_0 sc_string rfl ?_
  refine r_fieldL hI 1 rfl fo_iPred_0 sc_string rfl ?_
  refine r_sneq ?_
  refine condV (fun hb => by simp at hb) (fun _ => ?_)
  refine r_fieldL hI 0 rfl fo_iPred_1 sc_int rfl ?_
  refine r_fieldL hI 1 rfl fo_iPred_1 sc_int rfl ?_
  refine r_neq ?_
  exact condV (fun hb => by simp at hb) (fun _ => done hI rfl)
theorem eqPredS_calls {l : List Pd} {S : Store} {u v : Value} (h : RdSl S 2 RdPd u l) (h' : RdSl S 2 RdPd v l) : Pure Try.prog n_l_eqPredS [u, v] S (.bool true) := by
  intro w hI
  have hlen := h.le
  simp only [maxLen] at hlen
  refine calls_l_eqPredS ?_
  unfold sh_l_eqPredS
  refine r_lenSl h sl_SiPred ?_
  refine r_lenSl h' sl_SiPred ?_
  refine r_neq ?_
  refine condV (fun hb => by simp at hb) (fun _ => ?_)
  refine ⟨fun i w' => ∃ (j : Nat), j ≤ l.length ∧ i = .int .i64 j ∧ Inv w [] [] S w', fun i _ => l.length - (intOf i).toNat, ⟨0, Nat.zero_le _, rfl, hI⟩, ?_⟩
  intro t5 _ _ _ _ _ _ _ _ _ _ _ _ _ _ _ _ _ w'
  rintro ⟨j, hj, rfl, hI⟩
  refine r_lenSl h sl_SiPred ?_
  refine r_lss ?_
  refine condP (fun hji => ?_) (fun hji => ?_)
  · have hj' : j < l.length := by omega
    obtain ⟨b, o, cap, c, E, fz, rfl, hS, hR⟩ := h.at_ hj'
    obtain ⟨b2, o2, cap2, c2, E2, fz2, rfl, hS2, hR2⟩ := h'.at_ hj'
    have hc1 : cellsAt c (o + j * 2) 2 = l[j].cells := hR
    have hc2 : cellsAt c2 (o2 + j * 2) 2 = l[j].cells := hR2
    refine ⟨fun D x26 x25 x24 x23 x22 x21 x20 x19 x18 x17 w_ => (D 0 = true → x17 = .slice (some ⟨b, o, none⟩) l.length cap) ∧ (D 1 = true → x18 = .int .i64 j) ∧ (D 2 = true → x19 = .pointer (some ⟨b, o + j * 2, none⟩)) ∧ (D 3 = true → x20 = .agg l[j].cells.toArray) ∧ (D 4 = true → x21 = .slice (some ⟨b2, o2, none⟩) l.length cap2) ∧ (D 5 = true → x22 = .int .i64 j) ∧ (D 6 = true → x23 = .pointer (some ⟨b2, o2 + j * 2, none⟩)) ∧ (D 7 = true → x24 = .agg l[j].cells.toArray) ∧ (D 8 = true → x25 = .bool true) ∧ (D 9 = true → x26 = .bool false) ∧ Inv w [] [] S w_, ⟨fun h => Bool.noConfusion h, fun h => Bool.noConfusion h, fun h => Bool.noConfusion h, fun h => Bool.noConfusion h, fun h => Bool.noConfusion h, fun h => Bool.noConfusion h, fun h => Bool.noConfusion h, fun h => Bool.noConfusion h, fun h => Bool.noConfusion h, fun h => Bool.noConfusion h, hI.draw⟩, ⟨?_, ?_, ?_, ?_, ?_, ?_, ?_, ?_, ?_, ?_, trivial⟩, ?_⟩
    · intro D hD_  x26 x25 x24 x23 x22 x21 x20 x19 x18 x17 w_
      rintro ⟨h0_, h1_, h2_, h3_, h4_, h5_, h6_, h7_, h8_, h9_, hI⟩
      exact ⟨fun _ => rfl, h1_, h2_, h3_, h4_, h5_, h6_, h7_, h8_, h9_, hI⟩
    · intro D hD_  x26 x25 x24 x23 x22 x21 x20 x19 x18 x17 w_
      rintro ⟨h0_, h1_, h2_, h3_, h4_, h5_, h6_, h7_, h8_, h9_, hI⟩
      exact ⟨h0_, fun _ => rfl, h2_, h3_, h4_, h5_, h6_, h7_, h8_, h9_, hI⟩
    · intro D hD_ d0_0 d1_1 x26 x25 x24 x23 x22 x21 x20 x19 x18 x17 w_
      rintro ⟨h0_, h1_, h2_, h3_, h4_, h5_, h6_, h7_, h8_, h9_, hI⟩
      obtain rfl := h0_ d0_0
      obtain rfl := h1_ d1_1
      refine r_indexAddr sl_SiPred hj' ?_
      exact ⟨h0_, h1_, fun _ => rfl, h3_, h4_, h5_, h6_, h7_, h8_, h9_, hI⟩
    · intro D hD_ d2_0 x26 x25 x24 x23 x22 x21 x20 x19 x18 x17 w_
      rintro ⟨h0_, h1_, h2_, h3_, h4_, h5_, h6_, h7_, h8_, h9_, hI⟩
      obtain rfl := h2_ d2_0
      refine r_loadA (cs := l[j].cells) ag_iPred rfl (fun i v hi => by rw [hI.cellS hS]; exact cellsAt_get hc1 i v hi) ?_
      exact ⟨h0_, h1_, h2_, fun _ => rfl, h4_, h5_, h6_, h7_, h8_, h9_, hI⟩
    · intro D hD_  x26 x25 x24 x23 x22 x21 x20 x19 x18 x17 w_
      rintro ⟨h0_, h1_, h2_, h3_, h4_, h5_, h6_, h7_, h8_, h9_, hI⟩
      exact ⟨h0_, h1_, h2_, h3_, fun _ => rfl, h5_, h6_, h7_, h8_, h9_, hI⟩
    · intro D hD_  x26 x25 x24 x23 x22 x21 x20 x19 x18 x17 w_
      rintro ⟨h0_, h1_, h2_, h3_, h4_, h5_, h6_, h7_, h8_, h9_, hI⟩
      exact ⟨h0_, h1_, h2_, h3_, h4_, fun _ => rfl, h6_, h7_, h8_, h9_, hI⟩
    · intro D hD_ d4_0 d5_1 x26 x25 x24 x23 x22 x21 x20 x19 x18 x17 w_
      rintro ⟨h0_, h1_, h2_, h3_, h4_, h5_, h6_, h7_, h8_, h9_, hI⟩
      obtain rfl := h4_ d4_0
      obtain rfl := h5_ d5_1
      refine r_indexAddr sl_SiPred hj' ?_
      exact ⟨h0_, h1_, h2_, h3_, h4_, h5_, fun _ => rfl, h7_, h8_, h9_, hI⟩
    · intro D hD_ d6_0 x26 x25 x24 x23 x22 x21 x20 x19 x18 x17 w_
      rintro ⟨h0_, h1_, h2_, h3_, h4_, h5_, h6_, h7_, h8_, h9_, hI⟩
      obtain rfl := h6_ d6_0
      refine r_loadA (cs := l[j].cells) ag_iPred rfl (fun i v hi => by rw [hI.cellS hS2]; exact cellsAt_get hc2 i v hi) ?_
      exact ⟨h0_, h1_, h2_, h3_, h4_, h5_, h6_, fun _ => rfl, h8_, h9_, hI⟩
    · intro D hD_ d3_0 d7_1 x26 x25 x24 x23 x22 x21 x20 x19 x18 x17 w_
      rintro ⟨h0_, h1_, h2_, h3_, h4_, h5_, h6_, h7_, h8_, h9_, hI⟩
      obtain rfl := h3_ d3_0
      obtain rfl := h7_ d7_1
      refine Run.callPure fn_l_eqPred nm_l_eqPred hI (eqPred_calls _ S) fun w_ hI => ?_
      exact ⟨h0_, h1_, h2_, h3_, h4_, h5_, h6_, h7_, fun _ => rfl, h9_, hI⟩
    · intro D hD_ d8_0 x26 x25 x24 x23 x22 x21 x20 x19 x18 x17 w_
      rintro ⟨h0_, h1_, h2_, h3_, h4_, h5_, h6_, h7_, h8_, h9_, hI⟩
      obtain rfl := h8_ d8_0
      refine r_not ?_
      exact ⟨h0_, h1_, h2_, h3_, h4_, h5_, h6_, h7_, h8_, fun _ => rfl, hI⟩
    intro D d9_ d8_ d7_ d6_ d5_ d4_ d3_ d2_ d1_ d0_ x26 x25 x24 x23 x22 x21 x20 x19 x18 x17 w_
    rintro ⟨h0_, h1_, h2_, h3_, h4_, h5_, h6_, h7_, h8_, h9_, hI⟩
    obtain rfl := h9_ d9_
    obtain rfl := h8_ d8_
    obtain rfl := h7_ d7_
    obtain rfl := h6_ d6_
    obtain rfl := h5_ d5_
    obtain rfl := h4_ d4_
    obtain rfl := h3_ d3_
    obtain rfl := h2_ d2_
    obtain rfl := h1_ d1_
    obtain rfl := h0_ d0_
    clear h0_ h1_ h2_ h3_ h4_ h5_ h6_ h7_ h8_ h9_
    refine condV (fun hb => by cases hb) (fun _ => ?_)
    refine r_add (by omega) ?_
    exact ⟨⟨j + 1, hj', rfl, hI⟩, by simp [intOf]; omega⟩
  · exact done hI rfl
end

end Go.Proofs.Ytnoieadimkgjcaa

/- Steps that the laws' walks share: copies lent and marked, results compared, marked and read again. -/
namespace Go.Proofs.Ytnoieadimkgjcaa
open Go Go.RowKit
section
variable {w w0 : World} {X : List Nat} {L A : List Item} {S : Store} {K : Value → World → Prop}
attribute [local irreducible] Run CondV GuardV LoadV
/- copies that will be marked: their blocks are known -/
theorem Run.toClauseM {p : List C} {v : Value} (hI : Inv w0 X L S w) (h : RdSl S 5 (RdC S) v p) (hw : p.length + wP p ≤ 1048576)
    (hk : ∀ v' M S' w', Sle S S' → RdSl S' 5 (RdC S') v' p → TrSl 5 TrC M v' p → Inv w0 X L S' w' → (∀ B w'', Inv w0 X B S' w'' → Inv w0 X (B ++ blks M) S w'') → K v' w') :
    Run Try.prog (sCall (.func (.func n_l_toClauseS) #[] #[]) [v]) w K := by
  refine Run.call0 fn_l_toClauseS nm_l_toClauseS hI (toClauseS_calls h hw) fun v' I' S' w' => ?_
  rintro ⟨rfl, M, rfl, hT⟩ _ hI
  obtain ⟨S2, hle, hins, hI, hb⟩ := Inv.lendAll M hI
  exact hk _ M _ _ hle (hT.rd hins fun _ _ _ hi h => h.rd hi) hT hI hb
theorem Run.toTermM {p : List T} {v : Value} (hI : Inv w0 X L S w) (h : RdSl S 4 (RdT S) v p) (hw : p.length + wL p ≤ 1048576)
    (hk : ∀ v' M S' w', Sle S S' → RdSl S' 4 (RdT S') v' p → TrSl 4 TrT M v' p → Inv w0 X L S' w' → (∀ B w'', Inv w0 X B S' w'' → Inv w0 X (B ++ blks M) S w'') → K v' w') :
    Run Try.prog (sCall (.func (.func n_l_toTermS) #[] #[]) [v]) w K := by
  refine Run.call0 fn_l_toTermS nm_l_toTermS hI (toTermS_calls h hw) fun v' I' S' w' => ?_
  rintro ⟨rfl, M, rfl, hT⟩ _ hI
  obtain ⟨S2, hle, hins, hI, hb⟩ := Inv.lendAll M hI
  exact hk _ M _ _ hle (hT.rd hins fun _ _ _ hi h => h.rd hi) hT hI hb
/- they are marked, and nobody looks at them again -/
theorem Run.markP {p : List C} {v : Value} {M : Heaplet} {k : Int} (hI : Inv w0 X (A ++ blks M) S w) (hT : TrSl 5 TrC M v p) (hk0 : 0 ≤ k) (hk1 : k + 3 * cntP p ≤ 4611686018427387904)
    (hk : ∀ w', Inv w0 X A S w' → K (.int .i64 (k + 3 * cntP p)) w') : Run Try.prog (sCall (.func (.func n_l_markClauseS) #[] #[]) [v, .int .i64 k]) w K := by
  refine Run.call fn_l_markClauseS nm_l_markClauseS hI (markClauseS_ok hT hk0 hk1) fun v' I' S' w' => ?_
  rintro ⟨rfl, rfl, _⟩ _ hI
  rw [mkP_end]
  exact hk _ (hI.sub (List.sublist_append_left _ _))
theorem Run.markL {p : List T} {v : Value} {M : Heaplet} {k : Int} (hI : Inv w0 X (A ++ blks M) S w) (hT : TrSl 4 TrT M v p) (hk0 : 0 ≤ k) (hk1 : k + 3 * cntL p ≤ 4611686018427387904)
    (hk : ∀ w', Inv w0 X A S w' → K (.int .i64 (k + 3 * cntL p)) w') : Run Try.prog (sCall (.func (.func n_l_markTermS) #[] #[]) [v, .int .i64 k]) w K := by
  refine Run.call fn_l_markTermS nm_l_markTermS hI (markTermS_ok p S M v k hT hk0 hk1) fun v' I' S' w' => ?_
  rintro ⟨rfl, rfl, _⟩ _ hI
  rw [mkL_end]
  exact hk _ (hI.sub (List.sublist_append_left _ _))
/- rows of predicates -/
theorem Run.pubRow {f : FuncId} {fn : Func} {args : List Value} {l : List Pd} (hf : Try.prog.funcs[f]? = some fn) (hn : (fn.name == "runtime.NumGoroutine" || fn.body.isNone) = false) (hI : Inv w0 X L S w)
    (hc : Tri Try.prog f args [] S (PostP S l)) (hk : ∀ v' S' w', Sle S S' → RdSl S' 2 RdPd v' l → Inv w0 X L S' w' → K v' w') : Run Try.prog (sCall (.func (.func f) #[] #[]) args) w K := by
  refine Run.call0 hf hn hI hc fun v' I' S' w' => ?_
  rintro ⟨rfl, rfl⟩ _ hI
  obtain ⟨S1, hle, hrd, hI, _⟩ := hI.lend
  exact hk _ _ _ hle hrd.preds hI
theorem Run.eqRow {l : List Pd} {u v : Value} (hI : Inv w0 X (A ++ [rowP u l]) S w) (h : RdSl S 2 RdPd v l) (hk : ∀ w', Inv w0 X (A ++ [rowP u l]) S w' → K (.bool true) w') :
    Run Try.prog (sCall (.func (.func n_l_eqPredS) #[] #[]) [u, v]) w K := by
  obtain ⟨S1, hle, hrd, hI, hb⟩ := hI.lend
  exact Run.callPure fn_l_eqPredS nm_l_eqPredS hI (eqPredS_calls hrd.preds (h.mono hle fun _ _ h => h)) fun w' hI => hk _ (hb _ _ hI)
theorem Run.heldRow {l : List Pd} {u : Value} {k : Int} (hI : Inv w0 X (A ++ [rowP u (mkPd l k)]) S w) (hk0 : 0 ≤ k) (hk1 : k + 2 * l.length ≤ 4611686018427387904)
    (hk : ∀ w', Inv w0 X (A ++ [rowP u (mkPd l k)]) S w' → K (.int .i64 (k + 2 * l.length)) w') : Run Try.prog (sCall (.func (.func n_l_heldPredS) #[] #[]) [u, .int .i64 k]) w K := by
  obtain ⟨S1, hle, hrd, hI, hb⟩ := hI.lend
  exact Run.callPure fn_l_heldPredS nm_l_heldPredS hI (heldPredS_calls hrd.preds hk0 hk1) fun w' hI => hk _ (hb _ _ hI)
theorem Run.markRow {l : List Pd} {u : Value} {k : Int} (hI : Inv w0 X (A ++ [rowP u l]) S w) (hk0 : 0 ≤ k) (hk1 : k + 2 * l.length ≤ 4611686018427387904)
    (hk : ∀ w', Inv w0 X (A ++ [rowP u (mkPd l k)]) S w' → K (.int .i64 (k + 2 * l.length)) w') : Run Try.prog (sCall (.func (.func n_l_markPredS) #[] #[]) [u, .int .i64 k]) w K := by
  refine Run.call fn_l_markPredS nm_l_markPredS hI (markPredS_calls hk0 hk1) fun v' I' S' w' => ?_
  rintro ⟨rfl, rfl, rfl⟩ _ hI
  exact hk _ hI
end

end Go.Proofs.Ytnoieadimkgjcaa

/- Trees grown by append; impl.own and its kin. -/
namespace Go.Proofs.Ytnoieadimkgjcaa
open Go Go.RowKit

structure Grown {α : Type} (k : Nat) (R : Heaplet → List Value → α → Prop) (Ls : List Heaplet) (css : List (List Value)) (ys : List α) : Prop where
  hL : Ls.length = ys.length
  hc : css.length = ys.length
  hk : ∀ cs ∈ css, cs.length = k
  hR : ∀ i (h : i < ys.length) (h1 : i < Ls.length) (h2 : i < css.length), R Ls[i] css[i] ys[i]
theorem Grown.nil {α : Type} (k : Nat) (R : Heaplet → List Value → α → Prop) : Grown k R [] [] ([] : List α) := ⟨rfl, rfl, by simp, fun i h => by simp at h⟩
theorem Grown.snoc {α : Type} {k : Nat} {R : Heaplet → List Value → α → Prop} {Ls : List Heaplet} {css : List (List Value)} {ys : List α} (h : Grown k R Ls css ys) {L : Heaplet} {cs : List Value} {y : α} (hR : R L cs y) (hl : cs.length = k) :
    Grown k R (Ls ++ [L]) (css ++ [cs]) (ys ++ [y]) := by
  refine ⟨by simp [h.hL], by simp [h.hc], fun c hc => ?_, fun i h0 h1 h2 => ?_⟩
  · rcases List.mem_append.1 hc with hc | hc
    · exact h.hk c hc
    · simp at hc; subst hc; exact hl
  · have e1 := h.hL
    have e2 := h.hc
    by_cases hi : i < ys.length
    · rw [List.getElem_append_left (by omega), List.getElem_append_left (by omega), List.getElem_append_left hi]
      exact h.hR i hi (by omega) (by omega)
    · have : i = ys.length := by simp at h0; omega
      subst this
      rw [List.getElem_append_right (by omega), List.getElem_append_right (by omega), List.getElem_append_right (by omega)]
      simp only [e1, e2, Nat.sub_self, List.getElem_cons_zero]
      exact hR
theorem flatten_at (k : Nat) : ∀ (css : List (List Value)) (i : Nat) (_ : ∀ cs ∈ css, cs.length = k) (h : i < css.length), (css.flatten.drop (i * k)).take k = css[i]
  | [], i, _, h => by simp at h
  | c :: css, 0, hk, _ => by
    have := hk c (List.mem_cons_self ..)
    rw [List.flatten_cons, Nat.zero_mul, List.drop_zero, List.take_append_of_le_length (by omega), List.take_of_length_le (by omega)]
    rfl
  | c :: css, i + 1, hk, h => by
    have := hk c (List.mem_cons_self ..)
    rw [List.flatten_cons, Nat.succ_mul, Nat.add_comm, ← List.drop_drop, List.drop_left' this]
    exact flatten_at k css i (fun cs hc => hk cs (List.mem_cons_of_mem _ hc)) (by simpa using h)
abbrev rowG (v : Value) (e : TypeId) (k : Nat) (css : List (List Value)) : Item := .row v e k css.length css.flatten
theorem Inv.rowTree {α : Type} {w0 w : World} {X : List Nat} {A : List Item} {S : Store} {v : Value} {e : TypeId} {k : Nat} {R : Heaplet → List Value → α → Prop} {Ls : List Heaplet} {css : List (List Value)} {ys : List α}
    (h : Inv w0 X (A ++ (rowG v e k css :: blks Ls.flatten)) S w) (hg : Grown k R Ls css ys) : ∃ L, TrSl k R L v ys ∧ Inv w0 X (A ++ blks L) S w := by
  have hp : List.Perm ((A ++ blks Ls.flatten) ++ [rowG v e k css]) (A ++ (rowG v e k css :: blks Ls.flatten)) := by
    rw [List.append_assoc]
    exact List.Perm.append_left _ List.perm_append_comm
  obtain ⟨hl, ho⟩ := (h.perm hp).openRow
  have hcy := hg.hc
  have hLy := hg.hL
  rcases ho with ⟨rfl, h0⟩ | ⟨g, cap, cur, rfl, hnc, hcm, hcs, ht, hI⟩
  · have : ys = [] := List.eq_nil_of_length_eq_zero (by omega)
    subst this
    refine ⟨[], TrSl.nil (by simp [maxLen]), ?_⟩
    simpa [blks] using h.sub (List.sublist_append_left _ _)
  · by_cases hy : ys = []
    · subst hy
      have : css = [] := List.eq_nil_of_length_eq_zero (by simpa using hcy)
      subst this
      refine ⟨[], TrSl.nil hcm, ?_⟩
      simpa [blks] using h.sub (List.sublist_append_left _ _)
    · refine ⟨(g, .cells cur e) :: Ls.flatten, ⟨_, cap, by rw [hcy], by omega, hcm, .inr ⟨g, cur, e, Ls, rfl, rfl, hLy, by omega, fun i h1 h2 => ?_⟩⟩, ?_⟩
      · have hik : i * k + k ≤ css.length * k := by rw [← Nat.succ_mul]; exact Nat.mul_le_mul_right k (by omega)
        have := flatten_at k css i hg.hk (by omega)
        rw [← ht, List.drop_take, List.take_take, Nat.min_eq_left (by omega)] at this
        rw [cellsAt, this]
        exact hg.hR i h1 h2 (by omega)
      · refine hI.perm ?_
        rw [List.append_assoc]
        exact List.Perm.append_left _ (List.perm_append_comm (l₁ := [Item.blk g (.cells cur e)]))
theorem rowG_snoc (v : Value) (e : TypeId) (k : Nat) (css : List (List Value)) (cs : List Value) : Item.row v e k (css.length + 1) (css.flatten ++ cs) = rowG v e k (css ++ [cs]) := by
  simp [rowG]
section
variable {P : Program} {w w0 : World} {X : List Nat} {L : List Item} {S : Store} {K : Value → World → Prop}
attribute [local irreducible] Run CondV GuardV LoadV
/- append(row, x): x is put into a block of its own first -/
theorem r_append1 (h : Inv w0 X L S w) {T ty e : TypeId} {k by_ : Nat} {z v : Value} {cs : List Bool} {css : List (List Value)} (i : Nat) (xs : List Value)
    (hT : mkOf P T = some (e, k, by_, z)) (hk0 : 0 < k) (hk24 : k ≤ 65536) (hi : L[i]? = some (rowG v e k css)) (hl : xs.length = k) (h1 : ∀ u ∈ xs, u.oneCell' = true) (hfit : css.length + 1 ≤ 4294967296) (hby : by_ ≤ 32768)
    (hk : ∀ v' w', Inv w0 X (L.set i (rowG v' e k (css ++ [xs]))) S w' → K v' w') :
    Run P (sBuildSlice T 1 [(0, .agg xs.toArray)]) w fun u w' => Run P (sBuiltin .append #[T, T] ty cs [v, u]) w' K := by
  refine r_slice1 h hT (by simp [Value.cells, hl]) hk24 hk0 fun b w' hI => ?_
  have hil : i < L.length := (List.getElem?_eq_some_iff.1 hi).1
  refine r_append hI i xs hT hk0 (by rw [List.getElem?_append_left hil]; exact hi) (by omega) (m := 1) (o := 0) ?_ h1 hfit hby fun v' w' hI => ?_
  · intro j u hj
    rw [hI.cellL (i := L.length) (by rw [List.getElem?_append_right (Nat.le_refl _), Nat.sub_self]; rfl)]
    rw [Nat.zero_add]
    simpa [Value.cells] using hj
  · refine hk _ _ ?_
    rw [← rowG_snoc]
    rw [List.set_append_left _ _ hil] at hI
    exact hI.sub (List.sublist_append_left _ _)
end

section
attribute [local irreducible] Run CondV GuardV LoadV
theorem ownList_of {ts : List T} (ih : ∀ t ∈ ts, ∀ (S : Store) (cs : List Value), RdT S cs t → wT t ≤ 1048576 → Tri Try.prog n_i_own [.agg cs.toArray] [] S (PostT S t))
    {S : Store} {v : Value} (h : RdSl S 4 (RdT S) v ts) (hw : ts.length + wL ts ≤ 1048576) : Tri Try.prog n_i_ownList [v] [] S (PostS 4 TrT S ts) := by
  intro w hI
  refine calls_i_ownList ?_
  unfold sh_i_ownList
  refine r_lenSl h sl_SiTerm ?_
  refine ⟨fun i t w' => ∃ (k : Nat) (Ls : List Heaplet) (css : List (List Value)), k ≤ ts.length ∧ i = .int .i64 k ∧ Grown 4 TrT Ls css (ts.take k) ∧ Inv w [] (rowG t t_iTerm 4 css :: blks Ls.flatten) S w',
    fun i _ _ => ts.length - (intOf i).toNat, ⟨0, [], [], Nat.zero_le _, rfl, Grown.nil _ _, hI.rowNil t_iTerm 4⟩, ?_⟩
  intro t8 _ t3 _ _ _ _ _ _ _ _ _ w'
  rintro ⟨k, Ls, css, hk, rfl, hg, hI⟩
  refine r_lss ?_
  refine condP (fun hki => ?_) (fun hki => ?_)
  · have hk' : k < ts.length := by omega
    have htl : (ts.take k).length = k := by simp; omega
    have hcl := hg.hc
    refine r_elem hI h sl_SiTerm ag_iTerm hk' (fun _ _ => RdT.length) fun cs hcs => ?_
    have hm := List.getElem_mem hk'
    have hwm := wL_mem hm
    have hlc := hcs.length
    refine r_alloc hI zo_iTerm fun b6 w' hI => ?_
    have hI := hI.perm (M := .blk b6 _ :: (rowG t3 t_iTerm 4 css :: blks Ls.flatten)) (List.perm_append_comm (l₁ := [_]))
    refine r_storeW hI 0 rfl ag_iTerm (by simpa using hlc) rfl (by simpa using hcs.one) fun w' hI => ?_
    refine r_loadW hI 0 ag_iTerm rfl (by simpa using hlc) ?_
    have hI : Inv w [] (rowG t3 t_iTerm 4 css :: blks Ls.flatten) S w' := hI.sub (List.sublist_cons_self _ _)
    refine Run.call0 fn_i_own nm_i_own hI (ih _ hm S cs hcs (by omega)) fun v' I' S' w' => ?_
    rintro ⟨rfl, cs', L, rfl, rfl, hT⟩ _ hI
    refine r_append1 hI 0 cs' mk_SiTerm (by omega) (by omega) rfl hT.length hT.one (by omega) (by omega) fun v' w' hI => ?_
    refine r_add (by omega) ?_
    refine ⟨⟨k + 1, Ls ++ [L], css ++ [cs'], hk', rfl, ?_, ?_⟩, by simp [intOf]; omega⟩
    · rw [List.take_succ_eq_append_getElem hk']
      exact hg.snoc hT hT.length
    · simp only [List.flatten_append, List.flatten_cons, List.flatten_nil, List.append_nil, blks_append]
      exact hI
  · have : k = ts.length := by omega
    subst this
    rw [List.take_length] at hg
    obtain ⟨L, hT, hI⟩ := Inv.rowTree (A := []) hI hg
    exact ⟨_, _, _, rfl, hI, Ext.refl _ _ _, rfl, _, rfl, hT⟩
theorem own_calls : ∀ (t : T) (S : Store) (cs : List Value), RdT S cs t → wT t ≤ 1048576 → Tri Try.prog n_i_own [.agg cs.toArray] [] S (PostT S t) := by
  refine T.ind fun k n s ks ih S cs h hw => ?_
  intro w hI
  obtain ⟨kv, rfl, h1, h2, hs, hks⟩ := RdT.iff.1 h
  simp only [T.name, T.kids, T.kind, T.n] at h1 h2 hs hks ⊢
  simp only [wT] at hw
  refine calls_i_own ?_
  unfold sh_i_own
  refine r_box hI fun b1 w' hI => ?_
  refine r_alloc hI zo_iTerm fun b2 w' hI => ?_
  refine r_fieldL hI 0 rfl fo_iTerm_3 sc_SiTerm rfl ?_
  refine Run.call0 fn_i_ownList nm_i_ownList hI (ownList_of ih hks (by omega)) fun v' I' S' w' => ?_
  rintro ⟨rfl, L, rfl, hT⟩ _ hI
  have hv : v'.cells = #[v'] ∧ v'.oneCell' = true := by obtain ⟨a, cap, rfl, _⟩ := hT; exact ⟨rfl, rfl⟩
  refine r_fieldSt hI 0 rfl fo_iTerm_3 sc_SiTerm rfl hv.1 hv.2 fun w' hI => ?_
  refine r_loadW hI 0 ag_iTerm rfl rfl ?_
  refine r_storeW hI 1 rfl ag_iTerm rfl rfl ?_ fun w' hI => ?_
  · intro u hu
    have hu' : u ∈ ([.int .i64 k, .int .i64 n, .string s, v'] : List Value) := hu
    simp at hu'
    rcases hu' with rfl | rfl | rfl | rfl <;> first | rfl | exact hv.2
  refine loadV_W hI 1 ag_iTerm rfl rfl ?_
  refine ⟨_, _, _, rfl, hI.sub (List.sublist_append_right [_, _] (blks L)), Ext.refl _ _ _, rfl, [.int .i64 k, .int .i64 n, .string s, v'], L, rfl, rfl, TrT.iff.2 ⟨v', rfl, h1, h2, hs, hT⟩⟩
theorem ownList_calls {ts : List T} {S : Store} {v : Value} (h : RdSl S 4 (RdT S) v ts) (hw : ts.length + wL ts ≤ 1048576) : Tri Try.prog n_i_ownList [v] [] S (PostS 4 TrT S ts) :=
  ownList_of (fun t _ => own_calls t) h hw
end

end Go.Proofs.Ytnoieadimkgjcaa

/- impl.ownClause, impl.ownProgram. -/
namespace Go.Proofs.Ytnoieadimkgjcaa
open Go Go.RowKit
section
variable {w : World} {K : Value → World → Prop}
attribute [local irreducible] Run
theorem r_buildClause {a b : Int} {s : ByteArray} {k v : Value} (hv : ∃ p n m, v = .slice p n m) (hk : K (.agg #[.int .i64 a, .int .i64 b, .string s, k, v]) w) : Run Try.prog (sBuild t_iClause [(0, .agg #[.int .i64 a, .int .i64 b, .string s, k]), (1, v)]) w K := by
  obtain ⟨p, n, m, rfl⟩ := hv
  refine Run.of (v := .agg #[.int .i64 a, .int .i64 b, .string s, k, .slice p n m]) (w' := w) ?_ hk
  unfold sBuild
  rw [Sem.run_bind, run_build w t_iClause _ #[.int .i64 a, .int .i64 b, .string s, k, .slice p n m] (by kernel_rfl), Result.andThen_ok]
  rfl
theorem r_buildHead {a b : Int} {s : ByteArray} {k : Value} (hk : K (.agg #[.int .i64 a, .int .i64 b, .string s, k, .slice none 0 0]) w) : Run Try.prog (sBuild t_iClause [(0, .agg #[.int .i64 a, .int .i64 b, .string s, k])]) w K := by
  refine Run.of (v := .agg #[.int .i64 a, .int .i64 b, .string s, k, .slice none 0 0]) (w' := w) ?_ hk
  unfold sBuild
  rw [Sem.run_bind, run_build w t_iClause _ #[.int .i64 a, .int .i64 b, .string s, k, .slice none 0 0] (by kernel_rfl), Result.andThen_ok]
  rfl
theorem r_buildTerm {a b : Int} {s : ByteArray} (hk : K (.agg #[.int .i64 a, .int .i64 b, .string s, .slice none 0 0]) w) : Run Try.prog (sBuild t_iTerm [(0, .int .i64 a), (1, .int .i64 b), (2, .string s)]) w K := by
  refine Run.of (v := .agg #[.int .i64 a, .int .i64 b, .string s, .slice none 0 0]) (w' := w) ?_ hk
  unfold sBuild
  rw [Sem.run_bind, run_build w t_iTerm _ #[.int .i64 a, .int .i64 b, .string s, .slice none 0 0] (by kernel_rfl), Result.andThen_ok]
  rfl
end
section
attribute [local irreducible] Run CondV GuardV LoadV
def occItems (B B2 B2' : Item) (M1 M2 : Heaplet) (d2 d5 d7 : Bool) : List Item := B :: (match d7 with | true => B2' | false => B2) :: ((match d2 with | true => blks M1 | false => []) ++ (match d5 with | true => blks M2 | false => []))
theorem ownClause_calls {c : C} {S : Store} {cs : List Value} (h : RdC S cs c) (hw : wC c ≤ 1048576) : Tri Try.prog n_i_ownClause [.agg cs.toArray] [] S (PostC S c) := by
  intro w hI
  obtain ⟨hd, ks, rfl, h1, h2⟩ := h
  have h1' := h1
  obtain ⟨kv, rfl, g1, g2, g3, g4⟩ := RdT.iff.1 h1
  unfold wC at hw
  refine calls_i_ownClause ?_
  unfold sh_i_ownClause
  refine r_box hI fun b1 w' hI => ?_
  refine r_alloc hI zo_iClause fun b2 w' hI => ?_
  have hI : Inv w [] [.blk b1 (.cells #[.int .i64 c.head.kind, .int .i64 c.head.n, .string c.head.name, kv, ks] t_iClause), .blk b2 (.cells #[.int .i64 0, .int .i64 0, .string ⟨#[]⟩, .slice none 0 0, .slice none 0 0] t_iClause)] S w' := hI
  refine ⟨fun D x9 x8 x7 x6 x5 x4 x3 w_ => (D 0 = true → x3 = .pointer (some ⟨b1, 0, none⟩)) ∧ (D 1 = true → x4 = .agg #[.int .i64 c.head.kind, .int .i64 c.head.n, .string c.head.name, kv]) ∧ (D 2 = true → True) ∧ (D 3 = true → x6 = .pointer (some ⟨b1, 4, none⟩)) ∧ (D 4 = true → x7 = ks) ∧ (D 5 = true → True) ∧ (D 6 = true → True) ∧ (D 7 = true → True) ∧ ∃ M1 M2 k1, (D 2 = true → x5 = .agg #[.int .i64 c.head.kind, .int .i64 c.head.n, .string c.head.name, k1] ∧ TrT M1 [.int .i64 c.head.kind, .int .i64 c.head.n, .string c.head.name, k1] c.head) ∧ (D 5 = true → TrSl 4 TrT M2 x8 c.body) ∧ (D 6 = true → x9 = .agg #[.int .i64 c.head.kind, .int .i64 c.head.n, .string c.head.name, k1, x8]) ∧ (D 5 = true → D 2 = true) ∧ (D 6 = true → D 5 = true) ∧ (D 7 = true → D 6 = true) ∧ Inv w [] (occItems (.blk b1 (.cells #[.int .i64 c.head.kind, .int .i64 c.head.n, .string c.head.name, kv, ks] t_iClause)) (.blk b2 (.cells #[.int .i64 0, .int .i64 0, .string ⟨#[]⟩, .slice none 0 0, .slice none 0 0] t_iClause)) (.blk b2 (.cells #[.int .i64 c.head.kind, .int .i64 c.head.n, .string c.head.name, k1, x8] t_iClause)) M1 M2 (D 2) (D 5) (D 7)) S w_, ⟨fun h => Bool.noConfusion h, fun h => Bool.noConfusion h, fun h => Bool.noConfusion h, fun h => Bool.noConfusion h, fun h => Bool.noConfusion h, fun h => Bool.noConfusion h, fun h => Bool.noConfusion h, fun h => Bool.noConfusion h, ⟨[], [], undef, fun h => Bool.noConfusion h, fun h => Bool.noConfusion h, fun h => Bool.noConfusion h, fun h => Bool.noConfusion h, fun h => Bool.noConfusion h, fun h => Bool.noConfusion h, hI.draw⟩⟩, ⟨?_, ?_, ?_, ?_, ?_, ?_, ?_, ?_, trivial⟩, ?_⟩
  · intro D hD_  x9 x8 x7 x6 x5 x4 x3 w_
    rintro ⟨h0_, h1_, h2_, h3_, h4_, h5_, h6_, h7_, ⟨M1, M2, k1, e2, e5, e6, k5, k6, k7, hI⟩⟩
    refine r_field fo_iClause_0 ?_
    exact ⟨fun _ => rfl, h1_, h2_, h3_, h4_, h5_, h6_, h7_, ⟨M1, M2, k1, e2, e5, e6, k5, k6, k7, hI⟩⟩
  · intro D hD_ d0_0 x9 x8 x7 x6 x5 x4 x3 w_
    rintro ⟨h0_, h1_, h2_, h3_, h4_, h5_, h6_, h7_, ⟨M1, M2, k1, e2, e5, e6, k5, k6, k7, hI⟩⟩
    obtain rfl := h0_ d0_0
    refine r_loadLA hI 0 [.int .i64 c.head.kind, .int .i64 c.head.n, .string c.head.name, kv] ag_iTerm rfl rfl sub4 ?_
    exact ⟨h0_, fun _ => rfl, h2_, h3_, h4_, h5_, h6_, h7_, ⟨M1, M2, k1, e2, e5, e6, k5, k6, k7, hI⟩⟩
  · intro D hD_ d1_0 x9 x8 x7 x6 x5 x4 x3 w_
    rintro ⟨h0_, h1_, h2_, h3_, h4_, h5_, h6_, h7_, ⟨M1, M2, k1, e2, e5, e6, k5, k6, k7, hI⟩⟩
    obtain rfl := h1_ d1_0
    have f5 : D 5 = false := Bool.eq_false_iff.2 fun h => by rw [k5 h] at hD_; cases hD_
    have f6 : D 6 = false := Bool.eq_false_iff.2 fun h => by rw [k6 h] at f5; cases f5
    have f7 : D 7 = false := Bool.eq_false_iff.2 fun h => by rw [k7 h] at f6; cases f6
    rw [hD_, f5, f7] at hI
    refine Run.call0 fn_i_own nm_i_own hI (own_calls c.head S _ h1' (by omega)) fun v' I' S w_ => ?_
    rintro ⟨rfl, cs1, M1, rfl, rfl, hT1⟩ _ hI
    obtain ⟨k1, rfl, _⟩ := TrT.iff.1 hT1
    have e2 : setD D 2 2 = true → Value.agg #[.int .i64 c.head.kind, .int .i64 c.head.n, .string c.head.name, k1] = Value.agg #[.int .i64 c.head.kind, .int .i64 c.head.n, .string c.head.name, k1] ∧ TrT M1 [.int .i64 c.head.kind, .int .i64 c.head.n, .string c.head.name, k1] c.head := fun _ => ⟨rfl, hT1⟩
    have e6 := fun (h : D 6 = true) => (absurd h (by rw [f6]; decide) : x9 = .agg #[.int .i64 c.head.kind, .int .i64 c.head.n, .string c.head.name, k1, x8])
    have k5 := fun (_ : setD D 2 5 = true) => (rfl : setD D 2 2 = true)
    have hI : Inv w [] (occItems (.blk b1 (.cells #[.int .i64 c.head.kind, .int .i64 c.head.n, .string c.head.name, kv, ks] t_iClause)) (.blk b2 (.cells #[.int .i64 0, .int .i64 0, .string ⟨#[]⟩, .slice none 0 0, .slice none 0 0] t_iClause)) (.blk b2 (.cells #[.int .i64 c.head.kind, .int .i64 c.head.n, .string c.head.name, k1, x8] t_iClause)) M1 M2 true (D 5) (D 7)) S w_ := by
      rw [f5, f7]
      simpa [occItems] using hI
    exact ⟨h0_, h1_, fun _ => by first | assumption | trivial, h3_, h4_, h5_, h6_, h7_, ⟨M1, M2, k1, e2, e5, e6, k5, k6, k7, hI⟩⟩
  · intro D hD_  x9 x8 x7 x6 x5 x4 x3 w_
    rintro ⟨h0_, h1_, h2_, h3_, h4_, h5_, h6_, h7_, ⟨M1, M2, k1, e2, e5, e6, k5, k6, k7, hI⟩⟩
    refine r_field fo_iClause_1 ?_
    exact ⟨h0_, h1_, h2_, fun _ => rfl, h4_, h5_, h6_, h7_, ⟨M1, M2, k1, e2, e5, e6, k5, k6, k7, hI⟩⟩
  · intro D hD_ d3_0 x9 x8 x7 x6 x5 x4 x3 w_
    rintro ⟨h0_, h1_, h2_, h3_, h4_, h5_, h6_, h7_, ⟨M1, M2, k1, e2, e5, e6, k5, k6, k7, hI⟩⟩
    obtain rfl := h3_ d3_0
    refine r_loadL hI 0 sc_SiTerm rfl rfl ?_
    exact ⟨h0_, h1_, h2_, h3_, fun _ => by first | assumption | trivial, h5_, h6_, h7_, ⟨M1, M2, k1, e2, e5, e6, k5, k6, k7, hI⟩⟩
  · intro D hD_ d4_0 d2_1 x9 x8 x7 x6 x5 x4 x3 w_
    rintro ⟨h0_, h1_, h2_, h3_, h4_, h5_, h6_, h7_, ⟨M1, M2, k1, e2, e5, e6, k5, k6, k7, hI⟩⟩
    have g4_ := h4_ d4_0
    have f6 : D 6 = false := Bool.eq_false_iff.2 fun h => by rw [k6 h] at hD_; cases hD_
    have f7 : D 7 = false := Bool.eq_false_iff.2 fun h => by rw [k7 h] at f6; cases f6
    rw [hD_, d2_1, f7] at hI
    refine Run.call0 fn_i_ownList nm_i_ownList hI (by rw [g4_]; exact ownList_calls h2 (by omega)) fun v' I' S w_ => ?_
    rintro ⟨rfl, M2, rfl, hT2⟩ _ hI
    have e5 := fun (_ : setD D 5 5 = true) => hT2
    have e6 := fun (h : D 6 = true) => (absurd h (by rw [f6]; decide) : x9 = .agg #[.int .i64 c.head.kind, .int .i64 c.head.n, .string c.head.name, k1, v'])
    have k6 := fun (_ : setD D 5 6 = true) => (rfl : setD D 5 5 = true)
    have k5 := fun (_ : setD D 5 5 = true) => d2_1
    have hI : Inv w [] (occItems (.blk b1 (.cells #[.int .i64 c.head.kind, .int .i64 c.head.n, .string c.head.name, kv, ks] t_iClause)) (.blk b2 (.cells #[.int .i64 0, .int .i64 0, .string ⟨#[]⟩, .slice none 0 0, .slice none 0 0] t_iClause)) (.blk b2 (.cells #[.int .i64 c.head.kind, .int .i64 c.head.n, .string c.head.name, k1, v'] t_iClause)) M1 M2 (D 2) true (D 7)) S w_ := by
      rw [d2_1, f7]
      simpa [occItems] using hI
    exact ⟨h0_, h1_, h2_, h3_, h4_, fun _ => by first | assumption | trivial, h6_, h7_, ⟨M1, M2, k1, e2, e5, e6, k5, k6, k7, hI⟩⟩
  · intro D hD_ d2_0 d5_1 x9 x8 x7 x6 x5 x4 x3 w_
    rintro ⟨h0_, h1_, h2_, h3_, h4_, h5_, h6_, h7_, ⟨M1, M2, k1, e2, e5, e6, k5, k6, k7, hI⟩⟩
    have g2_ := h2_ d2_0
    have g5_ := h5_ d5_1
    have q2 := (e2 d2_0).1
    subst q2
    refine r_buildClause (by obtain ⟨a8, cap8, hx8, _⟩ := e5 d5_1; exact ⟨_, _, _, hx8⟩) ?_
    have e6 : setD D 6 6 = true → Value.agg #[.int .i64 c.head.kind, .int .i64 c.head.n, .string c.head.name, k1, x8] = Value.agg #[.int .i64 c.head.kind, .int .i64 c.head.n, .string c.head.name, k1, x8] := fun _ => rfl
    have k7 := fun (_ : setD D 6 7 = true) => (rfl : setD D 6 6 = true)
    have k6 := fun (_ : setD D 6 6 = true) => d5_1
    exact ⟨h0_, h1_, h2_, h3_, h4_, h5_, fun _ => by first | assumption | trivial, h7_, ⟨M1, M2, k1, e2, e5, e6, k5, k6, k7, hI⟩⟩
  · intro D hD_ d6_0 d5_1 d0_2 d1_3 d2_4 d3_5 d4_6 d5_7 d6_8 x9 x8 x7 x6 x5 x4 x3 w_
    rintro ⟨h0_, h1_, h2_, h3_, h4_, h5_, h6_, h7_, ⟨M1, M2, k1, e2, e5, e6, k5, k6, k7, hI⟩⟩
    have g6_ := h6_ d6_0
    have q6 := e6 d6_0
    subst q6
    have q2 := (e2 d2_4).2
    have q5 := e5 d5_1
    rw [hD_, d2_4, d5_1] at hI
    refine r_storeW hI 1 rfl ag_iClause rfl rfl ?_ fun w_ hI => ?_
    · intro u hu
      have hu' : u ∈ ([.int .i64 c.head.kind, .int .i64 c.head.n, .string c.head.name, k1, x8] : List Value) := hu
      simp at hu'
      have o1 : k1.oneCell' = true := q2.one k1 (by simp)
      have o2 : x8.oneCell' = true := by obtain ⟨a, cap, rfl, _⟩ := q5; rfl
      rcases hu' with rfl | rfl | rfl | rfl | rfl <;> first | rfl | exact o1 | exact o2
    have k7 := fun (_ : setD D 7 7 = true) => d6_0
    have hI : Inv w [] (occItems (.blk b1 (.cells #[.int .i64 c.head.kind, .int .i64 c.head.n, .string c.head.name, kv, ks] t_iClause)) (.blk b2 (.cells #[.int .i64 0, .int .i64 0, .string ⟨#[]⟩, .slice none 0 0, .slice none 0 0] t_iClause)) (.blk b2 (.cells #[.int .i64 c.head.kind, .int .i64 c.head.n, .string c.head.name, k1, x8] t_iClause)) M1 M2 (D 2) (D 5) true) S w_ := by
      rw [d2_4, d5_1]
      exact hI
    exact ⟨h0_, h1_, h2_, h3_, h4_, h5_, h6_, fun _ => trivial, ⟨M1, M2, k1, e2, e5, e6, k5, k6, k7, hI⟩⟩
  intro D d7_ d6_ d5_ d4_ d3_ d2_ d1_ d0_ x9 x8 x7 x6 x5 x4 x3 w_
  rintro ⟨h0_, h1_, h2_, h3_, h4_, h5_, h6_, h7_, ⟨M1, M2, k1, e2, e5, e6, k5, k6, k7, hI⟩⟩
  have g6_ := h6_ d6_
  have g5_ := h5_ d5_
  have g4_ := h4_ d4_
  obtain rfl := h3_ d3_
  have g2_ := h2_ d2_
  obtain rfl := h1_ d1_
  obtain rfl := h0_ d0_
  clear h0_ h1_ h2_ h3_ h4_ h5_ h6_ h7_
  have q2 := (e2 d2_).2
  have q5 := e5 d5_
  rw [d2_, d5_, d7_] at hI
  refine loadV_W hI 1 ag_iClause rfl rfl ?_
  refine ⟨_, _, _, rfl, hI.sub (List.sublist_append_right [_, _] (blks M1 ++ blks M2)), Ext.refl _ _ _, rfl, _, M1 ++ M2, rfl, by rw [blks_append], _, x8, M1, M2, rfl, rfl, q2, q5⟩
end

end Go.Proofs.Ytnoieadimkgjcaa
