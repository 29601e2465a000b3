/- The clauses for a goal; which clauses can be unfolded: both sides. -/
import Derived.Test.YtnoieadimkgjcaaPreds
import Derived.Test.YtnoieadimkgjcaaEq
namespace Go.Proofs.Ytnoieadimkgjcaa
open Go Go.RowKit
attribute [local irreducible] Run CondV GuardV LoadV

theorem posOf_step (f : C → Bool) (p : List C) (k : Nat) (h : k < p.length) (l : List Int) : (if f p[k] = true then l ++ [(k : Int)] else l) ++ posOf f (p.drop (k + 1)) (k + 1) = l ++ posOf f (p.drop k) k := by
  rw [List.drop_eq_getElem_cons h, posOf]
  split
  · rw [List.append_assoc]; rfl
  · rfl

theorem clausesFor_calls {p : List C} {S : Store} {v : Value} (x : Pd) (h : RdSl S 5 (RdC S) v p) (hp : p.length ≤ 2000000) : Tri Try.prog n_i_clausesFor [v, .agg x.cells.toArray] [] S (PostV S (posOf (fun c => eqPd (predT c.head) x) p 0)) := by
  intro w hI
  obtain ⟨xs, xn⟩ := x
  refine calls_i_clausesFor ?_
  unfold sh_i_clausesFor
  refine r_box hI fun b3 w' hI => ?_
  refine r_lenSl h sl_SiClause ?_
  refine ⟨fun i t w' => ∃ (k : Nat) (l : List Int), k ≤ p.length ∧ i = .int .i64 k ∧ l ++ posOf (fun c => eqPd (predT c.head) ⟨xs, xn⟩) (p.drop k) k = posOf (fun c => eqPd (predT c.head) ⟨xs, xn⟩) p 0 ∧ l.length ≤ k ∧
      Inv w [] [.blk b3 (.cells #[.string xs, .int .i64 xn] t_iPred), rowI t l] S w', fun i _ _ => p.length - (intOf i).toNat, ⟨0, [], Nat.zero_le _, rfl, rfl, Nat.le_refl _, hI.rowNil t_int 1⟩, ?_⟩
  intro t10 _ t5 _ _ _ _ t19 t18 t17 t16 t15 _ _ _ _ _ _ w'
  rintro ⟨k, l, hk, rfl, hrel, hl, hI⟩
  refine r_lss ?_
  refine condP (fun hki => ?_) (fun hki => ?_)
  · have hk' : k < p.length := by omega
    refine ⟨fun t w' => Inv w [] [.blk b3 (.cells #[.string xs, .int .i64 xn] t_iPred), rowI t (if eqPd (predT p[k].head) ⟨xs, xn⟩ = true then l ++ [(k : Int)] else l)] S w', ?_, ?_⟩
    · refine r_elem hI h sl_SiClause ag_iClause hk' (fun _ _ => RdC.length) fun cs hcs => ?_
      obtain ⟨hd, ks, rfl, h1, h2⟩ := hcs
      have h1' := h1
      obtain ⟨kv, rfl, _, _, hs, hks⟩ := RdT.iff.1 h1
      have hkv : kv.oneCell' = true ∧ ks.oneCell' = true := by
        obtain ⟨a, cap, rfl, _⟩ := hks
        obtain ⟨a, cap, rfl, _⟩ := h2
        exact ⟨rfl, rfl⟩
      refine r_alloc hI zo_iClause fun b7 w' hI => ?_
      refine r_storeW hI 2 rfl ag_iClause rfl rfl (by
        intro u hu
        have hu' : u ∈ ([.int .i64 p[k].head.kind, .int .i64 p[k].head.n, .string p[k].head.name, kv, ks] : List Value) := hu
        simp at hu'
        rcases hu' with rfl | rfl | rfl | rfl | rfl <;> first | rfl | exact hkv.1 | exact hkv.2) fun w' hI => ?_
      have hI : Inv w [] [.blk b3 (.cells #[.string xs, .int .i64 xn] t_iPred), rowI t5 l, .blk b7 (.cells #[.int .i64 p[k].head.kind, .int .i64 p[k].head.n, .string p[k].head.name, kv, ks] t_iClause)] S w' := hI
      refine ⟨fun D x19 x18 x17 x16 x15 w_ => (D 0 = true → x15 = .pointer (some ⟨b7, 0, none⟩)) ∧ (D 1 = true → x16 = .agg #[.int .i64 p[k].head.kind, .int .i64 p[k].head.n, .string p[k].head.name, kv]) ∧ (D 2 = true → x17 = .agg #[.string p[k].head.name, .int .i64 p[k].head.kids.length]) ∧ (D 3 = true → x18 = .agg #[.string xs, .int .i64 xn]) ∧ (D 4 = true → x19 = .bool (eqPd (predT p[k].head) ⟨xs, xn⟩)) ∧ Inv w [] [.blk b3 (.cells #[.string xs, .int .i64 xn] t_iPred), rowI t5 l, .blk b7 (.cells #[.int .i64 p[k].head.kind, .int .i64 p[k].head.n, .string p[k].head.name, kv, ks] t_iClause)] S w_, ⟨fun h => Bool.noConfusion h, fun h => Bool.noConfusion h, fun h => Bool.noConfusion h, fun h => Bool.noConfusion h, fun h => Bool.noConfusion h, hI.draw⟩, ⟨?_, ?_, ?_, ?_, ?_, trivial⟩, ?_⟩
      · intro D hD_  x19 x18 x17 x16 x15 w_
        rintro ⟨h0_, h1_, h2_, h3_, h4_, hI⟩
        refine r_field fo_iClause_0 ?_
        exact ⟨fun _ => rfl, h1_, h2_, h3_, h4_, hI⟩
      · intro D hD_ d0_0 x19 x18 x17 x16 x15 w_
        rintro ⟨h0_, h1_, h2_, h3_, h4_, hI⟩
        obtain rfl := h0_ d0_0
        refine r_loadLA hI 2 [.int .i64 p[k].head.kind, .int .i64 p[k].head.n, .string p[k].head.name, kv] ag_iTerm rfl rfl sub4 ?_
        exact ⟨h0_, fun _ => rfl, h2_, h3_, h4_, hI⟩
      · intro D hD_ d1_0 x19 x18 x17 x16 x15 w_
        rintro ⟨h0_, h1_, h2_, h3_, h4_, hI⟩
        obtain rfl := h1_ d1_0
        refine Run.callPure fn_i_pred nm_i_pred hI (i_pred_calls h1') fun w_ hI => ?_
        exact ⟨h0_, h1_, fun _ => rfl, h3_, h4_, hI⟩
      · intro D hD_  x19 x18 x17 x16 x15 w_
        rintro ⟨h0_, h1_, h2_, h3_, h4_, hI⟩
        refine r_loadW hI 0 ag_iPred rfl rfl ?_
        exact ⟨h0_, h1_, h2_, fun _ => rfl, h4_, hI⟩
      · intro D hD_ d2_0 d3_1 x19 x18 x17 x16 x15 w_
        rintro ⟨h0_, h1_, h2_, h3_, h4_, hI⟩
        obtain rfl := h2_ d2_0
        obtain rfl := h3_ d3_1
        refine r_peql ?_
        exact ⟨h0_, h1_, h2_, h3_, fun _ => rfl, hI⟩
      intro D d4_ d3_ d2_ d1_ d0_ x19 x18 x17 x16 x15 w_
      rintro ⟨h0_, h1_, h2_, h3_, h4_, hI⟩
      obtain rfl := h4_ d4_
      obtain rfl := h3_ d3_
      obtain rfl := h2_ d2_
      obtain rfl := h1_ d1_
      obtain rfl := h0_ d0_
      clear h0_ h1_ h2_ h3_ h4_
      refine condV (fun hb => ?_) (fun hb => ?_)
      · refine r_slice1 hI mk_Sint rfl (by omega) (by omega) fun b w' hI => ?_
        refine r_append hI 1 (k := 1) [.int .i64 k] mk_Sint (by omega) rfl rfl ?_ ?_ (by omega) (by omega) fun v' w' hI => ?_
        · intro j u hj
          rw [hI.cellL (i := 3) rfl]
          match j with
          | 0 => simpa [Value.cells] using hj
          | j + 1 => simp at hj
        · simp [Value.oneCell']
        · rw [ints_snoc] at hI
          have hI := hI.pick [true, true, false, false]
          rw [if_pos hb]
          have e : Item.row v' t_int 1 (l.length + 1) (ints (l ++ [(k : Int)])) = rowI v' (l ++ [(k : Int)]) := by simp [rowI]
          rw [show List.length l + 1 = l.length + 1 from rfl, e] at hI
          exact hI
      · rw [if_neg (by rw [hb]; decide)]
        exact hI.pick [true, true, false]
    intro t5 _ _ _ _ _ _ _ _ _ _ _ _ _ _ w' hI
    refine r_add (by omega) ?_
    refine ⟨⟨k + 1, _, hk', rfl, ?_, ?_, hI⟩, by simp [intOf]; omega⟩
    · rw [posOf_step (fun c => eqPd (predT c.head) ⟨xs, xn⟩) p k hk' l, hrel]
    · split
      · simp; omega
      · omega
  · have : k = p.length := by omega
    subst this
    rw [List.drop_length, posOf, List.append_nil] at hrel
    subst hrel
    exact ⟨_, _, _, rfl, hI.pick [false, true], Ext.refl _ _ _, rfl, rfl⟩

theorem l4For_calls {p : List C} {g : T} {S : Store} {v : Value} {cs : List Value} (h : RdSl S 5 (RdC S) v p) (hg : RdT S cs g) (hp : p.length ≤ 2000000) :
    Tri Try.prog n_s_l4For [v, .agg cs.toArray] [] S (PostV S (posOf (fun c => eqPd (predT c.head) (predT g)) p 0)) := by
  intro w hI
  obtain ⟨gv, rfl, _, _, hgs, hgk⟩ := RdT.iff.1 hg
  obtain ⟨gk, gn, gs, gks⟩ := g
  simp only [T.name, T.kids, T.kind, T.n] at hgs hgk ⊢
  refine calls_s_l4For ?_
  unfold sh_s_l4For
  refine r_box hI fun b3 w' hI => ?_
  refine r_slice0 hI mk_Sint fun v0 w' hI => ?_
  refine ⟨fun i t w' => ∃ (k : Nat) (l : List Int), k ≤ p.length ∧ i = .int .i64 k ∧ l ++ posOf (fun c => eqPd (predT c.head) (predT (.mk gk gn gs gks))) (p.drop k) k = posOf (fun c => eqPd (predT c.head) (predT (.mk gk gn gs gks))) p 0 ∧ l.length ≤ k ∧
      Inv w [] [.blk b3 (.cells #[.int .i64 gk, .int .i64 gn, .string gs, gv] t_iTerm), rowI t l] S w', fun i _ _ => p.length - (intOf i).toNat, ⟨0, [], Nat.zero_le _, rfl, rfl, Nat.le_refl _, hI⟩, ?_⟩
  intro t6 _ _ t5 _ _ _ _ t35 t34 t33 t32 t31 t30 t29 t28 t27 t26 t25 t24 t23 t22 t21 t20 t19 t18 t17 t16 t15 t14 _ _ _ _ w'
  rintro ⟨k, l, hk, rfl, hrel, hl, hI⟩
  refine r_lenSl h sl_SiClause ?_
  refine r_lss ?_
  refine condP (fun hki => ?_) (fun hki => ?_)
  · have hk' : k < p.length := by omega
    refine ⟨fun t w' => Inv w [] [.blk b3 (.cells #[.int .i64 gk, .int .i64 gn, .string gs, gv] t_iTerm), rowI t (if eqPd (predT p[k].head) (predT (.mk gk gn gs gks)) = true then l ++ [(k : Int)] else l)] S w', ?_, ?_⟩
    · obtain ⟨b, o, cap, c, E, fz, rfl, hS, hR⟩ := h.at_ hk'
      obtain ⟨hd, ks2, hcs, h1, h2⟩ := hR
      obtain ⟨kv, rfl, _, _, hs1, hk1⟩ := RdT.iff.1 h1
      have hf0 : eqPd (predT p[k].head) (predT (.mk gk gn gs gks)) = (decide (p[k].head.name = gs) && decide ((p[k].head.kids.length : Int) = gks.length)) := rfl
      cases hq : decide (p[k].head.name = gs)
      · have hf : eqPd (predT p[k].head) (predT (.mk gk gn gs gks)) = false := by rw [hf0, hq]; rfl
        refine ⟨fun D x35 x34 x33 x32 x31 x30 x29 x28 x27 x26 x25 x24 x23 x22 x21 x20 x19 x18 x17 x16 x15 x14 w_ => (D 0 = true → x14 = .slice (some ⟨b, o, none⟩) p.length cap) ∧ (D 1 = true → x15 = .int .i64 k) ∧ (D 2 = true → x16 = .pointer (some ⟨b, o + k * 5, none⟩)) ∧ (D 3 = true → x17 = .pointer (some ⟨b, o + k * 5, none⟩)) ∧ (D 4 = true → x18 = .pointer (some ⟨b, o + k * 5 + 2, none⟩)) ∧ (D 5 = true → x19 = .string p[k].head.name) ∧ (D 6 = true → x20 = .pointer (some ⟨b3, 2, none⟩)) ∧ (D 7 = true → x21 = .string gs) ∧ (D 8 = true → x22 = .bool false) ∧ (D 9 = true → x23 = .bool false) ∧ (D 10 = true → x24 = undef) ∧ (D 11 = true → x25 = undef) ∧ (D 12 = true → x26 = undef) ∧ (D 13 = true → x27 = undef) ∧ (D 14 = true → x28 = undef) ∧ (D 15 = true → x29 = undef) ∧ (D 16 = true → x30 = undef) ∧ (D 17 = true → x31 = undef) ∧ (D 18 = true → x32 = undef) ∧ (D 19 = true → x33 = undef) ∧ (D 20 = true → x34 = undef) ∧ (D 21 = true → x35 = .bool false) ∧ Inv w [] [.blk b3 (.cells #[.int .i64 gk, .int .i64 gn, .string gs, gv] t_iTerm), rowI t5 l] S w_, ⟨fun h => Bool.noConfusion h, fun h => Bool.noConfusion h, fun h => Bool.noConfusion h, fun h => Bool.noConfusion h, fun h => Bool.noConfusion h, fun h => Bool.noConfusion h, fun h => Bool.noConfusion h, fun h => Bool.noConfusion h, fun h => Bool.noConfusion h, fun h => Bool.noConfusion h, fun h => Bool.noConfusion h, fun h => Bool.noConfusion h, fun h => Bool.noConfusion h, fun h => Bool.noConfusion h, fun h => Bool.noConfusion h, fun h => Bool.noConfusion h, fun h => Bool.noConfusion h, fun h => Bool.noConfusion h, fun h => Bool.noConfusion h, fun h => Bool.noConfusion h, fun h => Bool.noConfusion h, fun h => Bool.noConfusion h, hI.draw⟩, ⟨?_, ?_, ?_, ?_, ?_, ?_, ?_, ?_, ?_, ?_, ?_, ?_, ?_, ?_, ?_, ?_, ?_, ?_, ?_, ?_, ?_, ?_, trivial⟩, ?_⟩
        · intro D hD_  x35 x34 x33 x32 x31 x30 x29 x28 x27 x26 x25 x24 x23 x22 x21 x20 x19 x18 x17 x16 x15 x14 w_
          rintro ⟨h0_, h1_, h2_, h3_, h4_, h5_, h6_, h7_, h8_, h9_, h10_, h11_, h12_, h13_, h14_, h15_, h16_, h17_, h18_, h19_, h20_, h21_, hI⟩
          exact ⟨fun _ => rfl, h1_, h2_, h3_, h4_, h5_, h6_, h7_, h8_, h9_, h10_, h11_, h12_, h13_, h14_, h15_, h16_, h17_, h18_, h19_, h20_, h21_, hI⟩
        · intro D hD_  x35 x34 x33 x32 x31 x30 x29 x28 x27 x26 x25 x24 x23 x22 x21 x20 x19 x18 x17 x16 x15 x14 w_
          rintro ⟨h0_, h1_, h2_, h3_, h4_, h5_, h6_, h7_, h8_, h9_, h10_, h11_, h12_, h13_, h14_, h15_, h16_, h17_, h18_, h19_, h20_, h21_, hI⟩
          exact ⟨h0_, fun _ => rfl, h2_, h3_, h4_, h5_, h6_, h7_, h8_, h9_, h10_, h11_, h12_, h13_, h14_, h15_, h16_, h17_, h18_, h19_, h20_, h21_, hI⟩
        · intro D hD_ d0_0 d1_1 x35 x34 x33 x32 x31 x30 x29 x28 x27 x26 x25 x24 x23 x22 x21 x20 x19 x18 x17 x16 x15 x14 w_
          rintro ⟨h0_, h1_, h2_, h3_, h4_, h5_, h6_, h7_, h8_, h9_, h10_, h11_, h12_, h13_, h14_, h15_, h16_, h17_, h18_, h19_, h20_, h21_, hI⟩
          obtain rfl := h0_ d0_0
          obtain rfl := h1_ d1_1
          refine r_indexAddr sl_SiClause hk' ?_
          exact ⟨h0_, h1_, fun _ => rfl, h3_, h4_, h5_, h6_, h7_, h8_, h9_, h10_, h11_, h12_, h13_, h14_, h15_, h16_, h17_, h18_, h19_, h20_, h21_, hI⟩
        · intro D hD_ d2_0 x35 x34 x33 x32 x31 x30 x29 x28 x27 x26 x25 x24 x23 x22 x21 x20 x19 x18 x17 x16 x15 x14 w_
          rintro ⟨h0_, h1_, h2_, h3_, h4_, h5_, h6_, h7_, h8_, h9_, h10_, h11_, h12_, h13_, h14_, h15_, h16_, h17_, h18_, h19_, h20_, h21_, hI⟩
          obtain rfl := h2_ d2_0
          refine r_field fo_iClause_0 ?_
          exact ⟨h0_, h1_, h2_, fun _ => rfl, h4_, h5_, h6_, h7_, h8_, h9_, h10_, h11_, h12_, h13_, h14_, h15_, h16_, h17_, h18_, h19_, h20_, h21_, hI⟩
        · intro D hD_ d3_0 x35 x34 x33 x32 x31 x30 x29 x28 x27 x26 x25 x24 x23 x22 x21 x20 x19 x18 x17 x16 x15 x14 w_
          rintro ⟨h0_, h1_, h2_, h3_, h4_, h5_, h6_, h7_, h8_, h9_, h10_, h11_, h12_, h13_, h14_, h15_, h16_, h17_, h18_, h19_, h20_, h21_, hI⟩
          obtain rfl := h3_ d3_0
          refine r_field fo_iTerm_2 ?_
          exact ⟨h0_, h1_, h2_, h3_, fun _ => rfl, h5_, h6_, h7_, h8_, h9_, h10_, h11_, h12_, h13_, h14_, h15_, h16_, h17_, h18_, h19_, h20_, h21_, hI⟩
        · intro D hD_ d4_0 x35 x34 x33 x32 x31 x30 x29 x28 x27 x26 x25 x24 x23 x22 x21 x20 x19 x18 x17 x16 x15 x14 w_
          rintro ⟨h0_, h1_, h2_, h3_, h4_, h5_, h6_, h7_, h8_, h9_, h10_, h11_, h12_, h13_, h14_, h15_, h16_, h17_, h18_, h19_, h20_, h21_, hI⟩
          obtain rfl := h4_ d4_0
          refine r_load sc_string (by rw [hI.cellS hS]; exact cellsAt_get hcs 2 _ rfl) ?_
          exact ⟨h0_, h1_, h2_, h3_, h4_, fun _ => rfl, h6_, h7_, h8_, h9_, h10_, h11_, h12_, h13_, h14_, h15_, h16_, h17_, h18_, h19_, h20_, h21_, hI⟩
        · intro D hD_  x35 x34 x33 x32 x31 x30 x29 x28 x27 x26 x25 x24 x23 x22 x21 x20 x19 x18 x17 x16 x15 x14 w_
          rintro ⟨h0_, h1_, h2_, h3_, h4_, h5_, h6_, h7_, h8_, h9_, h10_, h11_, h12_, h13_, h14_, h15_, h16_, h17_, h18_, h19_, h20_, h21_, hI⟩
          refine r_field fo_iTerm_2 ?_
          exact ⟨h0_, h1_, h2_, h3_, h4_, h5_, fun _ => rfl, h7_, h8_, h9_, h10_, h11_, h12_, h13_, h14_, h15_, h16_, h17_, h18_, h19_, h20_, h21_, hI⟩
        · intro D hD_ d6_0 x35 x34 x33 x32 x31 x30 x29 x28 x27 x26 x25 x24 x23 x22 x21 x20 x19 x18 x17 x16 x15 x14 w_
          rintro ⟨h0_, h1_, h2_, h3_, h4_, h5_, h6_, h7_, h8_, h9_, h10_, h11_, h12_, h13_, h14_, h15_, h16_, h17_, h18_, h19_, h20_, h21_, hI⟩
          obtain rfl := h6_ d6_0
          refine r_loadL hI 0 sc_string rfl rfl ?_
          exact ⟨h0_, h1_, h2_, h3_, h4_, h5_, h6_, fun _ => rfl, h8_, h9_, h10_, h11_, h12_, h13_, h14_, h15_, h16_, h17_, h18_, h19_, h20_, h21_, hI⟩
        · intro D hD_ d5_0 d7_1 x35 x34 x33 x32 x31 x30 x29 x28 x27 x26 x25 x24 x23 x22 x21 x20 x19 x18 x17 x16 x15 x14 w_
          rintro ⟨h0_, h1_, h2_, h3_, h4_, h5_, h6_, h7_, h8_, h9_, h10_, h11_, h12_, h13_, h14_, h15_, h16_, h17_, h18_, h19_, h20_, h21_, hI⟩
          obtain rfl := h5_ d5_0
          obtain rfl := h7_ d7_1
          refine r_seql ?_; rw [hq]
          exact ⟨h0_, h1_, h2_, h3_, h4_, h5_, h6_, h7_, fun _ => rfl, h9_, h10_, h11_, h12_, h13_, h14_, h15_, h16_, h17_, h18_, h19_, h20_, h21_, hI⟩
        · intro D hD_ d8_0 x35 x34 x33 x32 x31 x30 x29 x28 x27 x26 x25 x24 x23 x22 x21 x20 x19 x18 x17 x16 x15 x14 w_
          rintro ⟨h0_, h1_, h2_, h3_, h4_, h5_, h6_, h7_, h8_, h9_, h10_, h11_, h12_, h13_, h14_, h15_, h16_, h17_, h18_, h19_, h20_, h21_, hI⟩
          obtain rfl := h8_ d8_0
          exact ⟨h0_, h1_, h2_, h3_, h4_, h5_, h6_, h7_, h8_, fun _ => rfl, h10_, h11_, h12_, h13_, h14_, h15_, h16_, h17_, h18_, h19_, h20_, h21_, hI⟩
        · intro D hD_ d9_0 x35 x34 x33 x32 x31 x30 x29 x28 x27 x26 x25 x24 x23 x22 x21 x20 x19 x18 x17 x16 x15 x14 w_
          rintro ⟨h0_, h1_, h2_, h3_, h4_, h5_, h6_, h7_, h8_, h9_, h10_, h11_, h12_, h13_, h14_, h15_, h16_, h17_, h18_, h19_, h20_, h21_, hI⟩
          obtain rfl := h9_ d9_0
          refine guard_ne (c := false) (b := true) (by decide) ?_
          exact ⟨h0_, h1_, h2_, h3_, h4_, h5_, h6_, h7_, h8_, h9_, fun _ => rfl, h11_, h12_, h13_, h14_, h15_, h16_, h17_, h18_, h19_, h20_, h21_, hI⟩
        · intro D hD_ d9_0 x35 x34 x33 x32 x31 x30 x29 x28 x27 x26 x25 x24 x23 x22 x21 x20 x19 x18 x17 x16 x15 x14 w_
          rintro ⟨h0_, h1_, h2_, h3_, h4_, h5_, h6_, h7_, h8_, h9_, h10_, h11_, h12_, h13_, h14_, h15_, h16_, h17_, h18_, h19_, h20_, h21_, hI⟩
          obtain rfl := h9_ d9_0
          refine guard_ne (c := false) (b := true) (by decide) ?_
          exact ⟨h0_, h1_, h2_, h3_, h4_, h5_, h6_, h7_, h8_, h9_, h10_, fun _ => rfl, h12_, h13_, h14_, h15_, h16_, h17_, h18_, h19_, h20_, h21_, hI⟩
        · intro D hD_ d10_0 d11_1 d9_2 x35 x34 x33 x32 x31 x30 x29 x28 x27 x26 x25 x24 x23 x22 x21 x20 x19 x18 x17 x16 x15 x14 w_
          rintro ⟨h0_, h1_, h2_, h3_, h4_, h5_, h6_, h7_, h8_, h9_, h10_, h11_, h12_, h13_, h14_, h15_, h16_, h17_, h18_, h19_, h20_, h21_, hI⟩
          obtain rfl := h10_ d10_0
          obtain rfl := h11_ d11_1
          obtain rfl := h9_ d9_2
          refine guard_ne (c := false) (b := true) (by decide) ?_
          exact ⟨h0_, h1_, h2_, h3_, h4_, h5_, h6_, h7_, h8_, h9_, h10_, h11_, fun _ => rfl, h13_, h14_, h15_, h16_, h17_, h18_, h19_, h20_, h21_, hI⟩
        · intro D hD_ d12_0 d9_1 x35 x34 x33 x32 x31 x30 x29 x28 x27 x26 x25 x24 x23 x22 x21 x20 x19 x18 x17 x16 x15 x14 w_
          rintro ⟨h0_, h1_, h2_, h3_, h4_, h5_, h6_, h7_, h8_, h9_, h10_, h11_, h12_, h13_, h14_, h15_, h16_, h17_, h18_, h19_, h20_, h21_, hI⟩
          obtain rfl := h12_ d12_0
          obtain rfl := h9_ d9_1
          refine guard_ne (c := false) (b := true) (by decide) ?_
          exact ⟨h0_, h1_, h2_, h3_, h4_, h5_, h6_, h7_, h8_, h9_, h10_, h11_, h12_, fun _ => rfl, h14_, h15_, h16_, h17_, h18_, h19_, h20_, h21_, hI⟩
        · intro D hD_ d13_0 d9_1 x35 x34 x33 x32 x31 x30 x29 x28 x27 x26 x25 x24 x23 x22 x21 x20 x19 x18 x17 x16 x15 x14 w_
          rintro ⟨h0_, h1_, h2_, h3_, h4_, h5_, h6_, h7_, h8_, h9_, h10_, h11_, h12_, h13_, h14_, h15_, h16_, h17_, h18_, h19_, h20_, h21_, hI⟩
          obtain rfl := h13_ d13_0
          obtain rfl := h9_ d9_1
          refine guard_ne (c := false) (b := true) (by decide) ?_
          exact ⟨h0_, h1_, h2_, h3_, h4_, h5_, h6_, h7_, h8_, h9_, h10_, h11_, h12_, h13_, fun _ => rfl, h15_, h16_, h17_, h18_, h19_, h20_, h21_, hI⟩
        · intro D hD_ d14_0 d9_1 x35 x34 x33 x32 x31 x30 x29 x28 x27 x26 x25 x24 x23 x22 x21 x20 x19 x18 x17 x16 x15 x14 w_
          rintro ⟨h0_, h1_, h2_, h3_, h4_, h5_, h6_, h7_, h8_, h9_, h10_, h11_, h12_, h13_, h14_, h15_, h16_, h17_, h18_, h19_, h20_, h21_, hI⟩
          obtain rfl := h14_ d14_0
          obtain rfl := h9_ d9_1
          refine guard_ne (c := false) (b := true) (by decide) ?_
          exact ⟨h0_, h1_, h2_, h3_, h4_, h5_, h6_, h7_, h8_, h9_, h10_, h11_, h12_, h13_, h14_, fun _ => rfl, h16_, h17_, h18_, h19_, h20_, h21_, hI⟩
        · intro D hD_ d15_0 d9_1 x35 x34 x33 x32 x31 x30 x29 x28 x27 x26 x25 x24 x23 x22 x21 x20 x19 x18 x17 x16 x15 x14 w_
          rintro ⟨h0_, h1_, h2_, h3_, h4_, h5_, h6_, h7_, h8_, h9_, h10_, h11_, h12_, h13_, h14_, h15_, h16_, h17_, h18_, h19_, h20_, h21_, hI⟩
          obtain rfl := h15_ d15_0
          obtain rfl := h9_ d9_1
          refine guard_ne (c := false) (b := true) (by decide) ?_
          exact ⟨h0_, h1_, h2_, h3_, h4_, h5_, h6_, h7_, h8_, h9_, h10_, h11_, h12_, h13_, h14_, h15_, fun _ => rfl, h17_, h18_, h19_, h20_, h21_, hI⟩
        · intro D hD_ d9_0 x35 x34 x33 x32 x31 x30 x29 x28 x27 x26 x25 x24 x23 x22 x21 x20 x19 x18 x17 x16 x15 x14 w_
          rintro ⟨h0_, h1_, h2_, h3_, h4_, h5_, h6_, h7_, h8_, h9_, h10_, h11_, h12_, h13_, h14_, h15_, h16_, h17_, h18_, h19_, h20_, h21_, hI⟩
          obtain rfl := h9_ d9_0
          refine guard_ne (c := false) (b := true) (by decide) ?_
          exact ⟨h0_, h1_, h2_, h3_, h4_, h5_, h6_, h7_, h8_, h9_, h10_, h11_, h12_, h13_, h14_, h15_, h16_, fun _ => rfl, h18_, h19_, h20_, h21_, hI⟩
        · intro D hD_ d17_0 d9_1 x35 x34 x33 x32 x31 x30 x29 x28 x27 x26 x25 x24 x23 x22 x21 x20 x19 x18 x17 x16 x15 x14 w_
          rintro ⟨h0_, h1_, h2_, h3_, h4_, h5_, h6_, h7_, h8_, h9_, h10_, h11_, h12_, h13_, h14_, h15_, h16_, h17_, h18_, h19_, h20_, h21_, hI⟩
          obtain rfl := h17_ d17_0
          obtain rfl := h9_ d9_1
          refine guard_ne (c := false) (b := true) (by decide) ?_
          exact ⟨h0_, h1_, h2_, h3_, h4_, h5_, h6_, h7_, h8_, h9_, h10_, h11_, h12_, h13_, h14_, h15_, h16_, h17_, fun _ => rfl, h19_, h20_, h21_, hI⟩
        · intro D hD_ d18_0 d9_1 x35 x34 x33 x32 x31 x30 x29 x28 x27 x26 x25 x24 x23 x22 x21 x20 x19 x18 x17 x16 x15 x14 w_
          rintro ⟨h0_, h1_, h2_, h3_, h4_, h5_, h6_, h7_, h8_, h9_, h10_, h11_, h12_, h13_, h14_, h15_, h16_, h17_, h18_, h19_, h20_, h21_, hI⟩
          obtain rfl := h18_ d18_0
          obtain rfl := h9_ d9_1
          refine guard_ne (c := false) (b := true) (by decide) ?_
          exact ⟨h0_, h1_, h2_, h3_, h4_, h5_, h6_, h7_, h8_, h9_, h10_, h11_, h12_, h13_, h14_, h15_, h16_, h17_, h18_, fun _ => rfl, h20_, h21_, hI⟩
        · intro D hD_ d16_0 d19_1 d9_2 x35 x34 x33 x32 x31 x30 x29 x28 x27 x26 x25 x24 x23 x22 x21 x20 x19 x18 x17 x16 x15 x14 w_
          rintro ⟨h0_, h1_, h2_, h3_, h4_, h5_, h6_, h7_, h8_, h9_, h10_, h11_, h12_, h13_, h14_, h15_, h16_, h17_, h18_, h19_, h20_, h21_, hI⟩
          obtain rfl := h16_ d16_0
          obtain rfl := h19_ d19_1
          obtain rfl := h9_ d9_2
          refine guard_ne (c := false) (b := true) (by decide) ?_
          exact ⟨h0_, h1_, h2_, h3_, h4_, h5_, h6_, h7_, h8_, h9_, h10_, h11_, h12_, h13_, h14_, h15_, h16_, h17_, h18_, h19_, fun _ => rfl, h21_, hI⟩
        · intro D hD_ d9_0 d20_1 x35 x34 x33 x32 x31 x30 x29 x28 x27 x26 x25 x24 x23 x22 x21 x20 x19 x18 x17 x16 x15 x14 w_
          rintro ⟨h0_, h1_, h2_, h3_, h4_, h5_, h6_, h7_, h8_, h9_, h10_, h11_, h12_, h13_, h14_, h15_, h16_, h17_, h18_, h19_, h20_, h21_, hI⟩
          obtain rfl := h9_ d9_0
          obtain rfl := h20_ d20_1
          refine r_pickF ?_
          exact ⟨h0_, h1_, h2_, h3_, h4_, h5_, h6_, h7_, h8_, h9_, h10_, h11_, h12_, h13_, h14_, h15_, h16_, h17_, h18_, h19_, h20_, fun _ => rfl, hI⟩
        intro D d21_ d20_ d19_ d18_ d17_ d16_ d15_ d14_ d13_ d12_ d11_ d10_ d9_ d8_ d7_ d6_ d5_ d4_ d3_ d2_ d1_ d0_ x35 x34 x33 x32 x31 x30 x29 x28 x27 x26 x25 x24 x23 x22 x21 x20 x19 x18 x17 x16 x15 x14 w_
        rintro ⟨h0_, h1_, h2_, h3_, h4_, h5_, h6_, h7_, h8_, h9_, h10_, h11_, h12_, h13_, h14_, h15_, h16_, h17_, h18_, h19_, h20_, h21_, hI⟩
        obtain rfl := h21_ d21_
        obtain rfl := h20_ d20_
        obtain rfl := h19_ d19_
        obtain rfl := h18_ d18_
        obtain rfl := h17_ d17_
        obtain rfl := h16_ d16_
        obtain rfl := h15_ d15_
        obtain rfl := h14_ d14_
        obtain rfl := h13_ d13_
        obtain rfl := h12_ d12_
        obtain rfl := h11_ d11_
        obtain rfl := h10_ d10_
        obtain rfl := h9_ d9_
        obtain rfl := h8_ d8_
        obtain rfl := h7_ d7_
        obtain rfl := h6_ d6_
        obtain rfl := h5_ d5_
        obtain rfl := h4_ d4_
        obtain rfl := h3_ d3_
        obtain rfl := h2_ d2_
        obtain rfl := h1_ d1_
        obtain rfl := h0_ d0_
        clear h0_ h1_ h2_ h3_ h4_ h5_ h6_ h7_ h8_ h9_ h10_ h11_ h12_ h13_ h14_ h15_ h16_ h17_ h18_ h19_ h20_ h21_
        refine condV (fun hb => by cases hb) (fun hb => ?_)
        rw [hf, if_neg (by decide)]
        exact hI
      · have hf : eqPd (predT p[k].head) (predT (.mk gk gn gs gks)) = decide ((p[k].head.kids.length : Int) = gks.length) := by rw [hf0, hq]; rfl
        refine ⟨fun D x35 x34 x33 x32 x31 x30 x29 x28 x27 x26 x25 x24 x23 x22 x21 x20 x19 x18 x17 x16 x15 x14 w_ => (D 0 = true → x14 = .slice (some ⟨b, o, none⟩) p.length cap) ∧ (D 1 = true → x15 = .int .i64 k) ∧ (D 2 = true → x16 = .pointer (some ⟨b, o + k * 5, none⟩)) ∧ (D 3 = true → x17 = .pointer (some ⟨b, o + k * 5, none⟩)) ∧ (D 4 = true → x18 = .pointer (some ⟨b, o + k * 5 + 2, none⟩)) ∧ (D 5 = true → x19 = .string p[k].head.name) ∧ (D 6 = true → x20 = .pointer (some ⟨b3, 2, none⟩)) ∧ (D 7 = true → x21 = .string gs) ∧ (D 8 = true → x22 = .bool true) ∧ (D 9 = true → x23 = .bool true) ∧ (D 10 = true → x24 = .slice (some ⟨b, o, none⟩) p.length cap) ∧ (D 11 = true → x25 = .int .i64 k) ∧ (D 12 = true → x26 = .pointer (some ⟨b, o + k * 5, none⟩)) ∧ (D 13 = true → x27 = .pointer (some ⟨b, o + k * 5, none⟩)) ∧ (D 14 = true → x28 = .pointer (some ⟨b, o + k * 5 + 3, none⟩)) ∧ (D 15 = true → x29 = kv) ∧ (D 16 = true → x30 = .int .i64 p[k].head.kids.length) ∧ (D 17 = true → x31 = .pointer (some ⟨b3, 3, none⟩)) ∧ (D 18 = true → x32 = gv) ∧ (D 19 = true → x33 = .int .i64 gks.length) ∧ (D 20 = true → x34 = .bool (decide ((p[k].head.kids.length : Int) = gks.length))) ∧ (D 21 = true → x35 = .bool (decide ((p[k].head.kids.length : Int) = gks.length))) ∧ Inv w [] [.blk b3 (.cells #[.int .i64 gk, .int .i64 gn, .string gs, gv] t_iTerm), rowI t5 l] S w_, ⟨fun h => Bool.noConfusion h, fun h => Bool.noConfusion h, fun h => Bool.noConfusion h, fun h => Bool.noConfusion h, fun h => Bool.noConfusion h, fun h => Bool.noConfusion h, fun h => Bool.noConfusion h, fun h => Bool.noConfusion h, fun h => Bool.noConfusion h, fun h => Bool.noConfusion h, fun h => Bool.noConfusion h, fun h => Bool.noConfusion h, fun h => Bool.noConfusion h, fun h => Bool.noConfusion h, fun h => Bool.noConfusion h, fun h => Bool.noConfusion h, fun h => Bool.noConfusion h, fun h => Bool.noConfusion h, fun h => Bool.noConfusion h, fun h => Bool.noConfusion h, fun h => Bool.noConfusion h, fun h => Bool.noConfusion h, hI.draw⟩, ⟨?_, ?_, ?_, ?_, ?_, ?_, ?_, ?_, ?_, ?_, ?_, ?_, ?_, ?_, ?_, ?_, ?_, ?_, ?_, ?_, ?_, ?_, trivial⟩, ?_⟩
        · intro D hD_  x35 x34 x33 x32 x31 x30 x29 x28 x27 x26 x25 x24 x23 x22 x21 x20 x19 x18 x17 x16 x15 x14 w_
          rintro ⟨h0_, h1_, h2_, h3_, h4_, h5_, h6_, h7_, h8_, h9_, h10_, h11_, h12_, h13_, h14_, h15_, h16_, h17_, h18_, h19_, h20_, h21_, hI⟩
          exact ⟨fun _ => rfl, h1_, h2_, h3_, h4_, h5_, h6_, h7_, h8_, h9_, h10_, h11_, h12_, h13_, h14_, h15_, h16_, h17_, h18_, h19_, h20_, h21_, hI⟩
        · intro D hD_  x35 x34 x33 x32 x31 x30 x29 x28 x27 x26 x25 x24 x23 x22 x21 x20 x19 x18 x17 x16 x15 x14 w_
          rintro ⟨h0_, h1_, h2_, h3_, h4_, h5_, h6_, h7_, h8_, h9_, h10_, h11_, h12_, h13_, h14_, h15_, h16_, h17_, h18_, h19_, h20_, h21_, hI⟩
          exact ⟨h0_, fun _ => rfl, h2_, h3_, h4_, h5_, h6_, h7_, h8_, h9_, h10_, h11_, h12_, h13_, h14_, h15_, h16_, h17_, h18_, h19_, h20_, h21_, hI⟩
        · intro D hD_ d0_0 d1_1 x35 x34 x33 x32 x31 x30 x29 x28 x27 x26 x25 x24 x23 x22 x21 x20 x19 x18 x17 x16 x15 x14 w_
          rintro ⟨h0_, h1_, h2_, h3_, h4_, h5_, h6_, h7_, h8_, h9_, h10_, h11_, h12_, h13_, h14_, h15_, h16_, h17_, h18_, h19_, h20_, h21_, hI⟩
          obtain rfl := h0_ d0_0
          obtain rfl := h1_ d1_1
          refine r_indexAddr sl_SiClause hk' ?_
          exact ⟨h0_, h1_, fun _ => rfl, h3_, h4_, h5_, h6_, h7_, h8_, h9_, h10_, h11_, h12_, h13_, h14_, h15_, h16_, h17_, h18_, h19_, h20_, h21_, hI⟩
        · intro D hD_ d2_0 x35 x34 x33 x32 x31 x30 x29 x28 x27 x26 x25 x24 x23 x22 x21 x20 x19 x18 x17 x16 x15 x14 w_
          rintro ⟨h0_, h1_, h2_, h3_, h4_, h5_, h6_, h7_, h8_, h9_, h10_, h11_, h12_, h13_, h14_, h15_, h16_, h17_, h18_, h19_, h20_, h21_, hI⟩
          obtain rfl := h2_ d2_0
          refine r_field fo_iClause_0 ?_
          exact ⟨h0_, h1_, h2_, fun _ => rfl, h4_, h5_, h6_, h7_, h8_, h9_, h10_, h11_, h12_, h13_, h14_, h15_, h16_, h17_, h18_, h19_, h20_, h21_, hI⟩
        · intro D hD_ d3_0 x35 x34 x33 x32 x31 x30 x29 x28 x27 x26 x25 x24 x23 x22 x21 x20 x19 x18 x17 x16 x15 x14 w_
          rintro ⟨h0_, h1_, h2_, h3_, h4_, h5_, h6_, h7_, h8_, h9_, h10_, h11_, h12_, h13_, h14_, h15_, h16_, h17_, h18_, h19_, h20_, h21_, hI⟩
          obtain rfl := h3_ d3_0
          refine r_field fo_iTerm_2 ?_
          exact ⟨h0_, h1_, h2_, h3_, fun _ => rfl, h5_, h6_, h7_, h8_, h9_, h10_, h11_, h12_, h13_, h14_, h15_, h16_, h17_, h18_, h19_, h20_, h21_, hI⟩
        · intro D hD_ d4_0 x35 x34 x33 x32 x31 x30 x29 x28 x27 x26 x25 x24 x23 x22 x21 x20 x19 x18 x17 x16 x15 x14 w_
          rintro ⟨h0_, h1_, h2_, h3_, h4_, h5_, h6_, h7_, h8_, h9_, h10_, h11_, h12_, h13_, h14_, h15_, h16_, h17_, h18_, h19_, h20_, h21_, hI⟩
          obtain rfl := h4_ d4_0
          refine r_load sc_string (by rw [hI.cellS hS]; exact cellsAt_get hcs 2 _ rfl) ?_
          exact ⟨h0_, h1_, h2_, h3_, h4_, fun _ => rfl, h6_, h7_, h8_, h9_, h10_, h11_, h12_, h13_, h14_, h15_, h16_, h17_, h18_, h19_, h20_, h21_, hI⟩
        · intro D hD_  x35 x34 x33 x32 x31 x30 x29 x28 x27 x26 x25 x24 x23 x22 x21 x20 x19 x18 x17 x16 x15 x14 w_
          rintro ⟨h0_, h1_, h2_, h3_, h4_, h5_, h6_, h7_, h8_, h9_, h10_, h11_, h12_, h13_, h14_, h15_, h16_, h17_, h18_, h19_, h20_, h21_, hI⟩
          refine r_field fo_iTerm_2 ?_
          exact ⟨h0_, h1_, h2_, h3_, h4_, h5_, fun _ => rfl, h7_, h8_, h9_, h10_, h11_, h12_, h13_, h14_, h15_, h16_, h17_, h18_, h19_, h20_, h21_, hI⟩
        · intro D hD_ d6_0 x35 x34 x33 x32 x31 x30 x29 x28 x27 x26 x25 x24 x23 x22 x21 x20 x19 x18 x17 x16 x15 x14 w_
          rintro ⟨h0_, h1_, h2_, h3_, h4_, h5_, h6_, h7_, h8_, h9_, h10_, h11_, h12_, h13_, h14_, h15_, h16_, h17_, h18_, h19_, h20_, h21_, hI⟩
          obtain rfl := h6_ d6_0
          refine r_loadL hI 0 sc_string rfl rfl ?_
          exact ⟨h0_, h1_, h2_, h3_, h4_, h5_, h6_, fun _ => rfl, h8_, h9_, h10_, h11_, h12_, h13_, h14_, h15_, h16_, h17_, h18_, h19_, h20_, h21_, hI⟩
        · intro D hD_ d5_0 d7_1 x35 x34 x33 x32 x31 x30 x29 x28 x27 x26 x25 x24 x23 x22 x21 x20 x19 x18 x17 x16 x15 x14 w_
          rintro ⟨h0_, h1_, h2_, h3_, h4_, h5_, h6_, h7_, h8_, h9_, h10_, h11_, h12_, h13_, h14_, h15_, h16_, h17_, h18_, h19_, h20_, h21_, hI⟩
          obtain rfl := h5_ d5_0
          obtain rfl := h7_ d7_1
          refine r_seql ?_; rw [hq]
          exact ⟨h0_, h1_, h2_, h3_, h4_, h5_, h6_, h7_, fun _ => rfl, h9_, h10_, h11_, h12_, h13_, h14_, h15_, h16_, h17_, h18_, h19_, h20_, h21_, hI⟩
        · intro D hD_ d8_0 x35 x34 x33 x32 x31 x30 x29 x28 x27 x26 x25 x24 x23 x22 x21 x20 x19 x18 x17 x16 x15 x14 w_
          rintro ⟨h0_, h1_, h2_, h3_, h4_, h5_, h6_, h7_, h8_, h9_, h10_, h11_, h12_, h13_, h14_, h15_, h16_, h17_, h18_, h19_, h20_, h21_, hI⟩
          obtain rfl := h8_ d8_0
          exact ⟨h0_, h1_, h2_, h3_, h4_, h5_, h6_, h7_, h8_, fun _ => rfl, h10_, h11_, h12_, h13_, h14_, h15_, h16_, h17_, h18_, h19_, h20_, h21_, hI⟩
        · intro D hD_ d9_0 x35 x34 x33 x32 x31 x30 x29 x28 x27 x26 x25 x24 x23 x22 x21 x20 x19 x18 x17 x16 x15 x14 w_
          rintro ⟨h0_, h1_, h2_, h3_, h4_, h5_, h6_, h7_, h8_, h9_, h10_, h11_, h12_, h13_, h14_, h15_, h16_, h17_, h18_, h19_, h20_, h21_, hI⟩
          obtain rfl := h9_ d9_0
          refine guard_true ?_
          exact ⟨h0_, h1_, h2_, h3_, h4_, h5_, h6_, h7_, h8_, h9_, fun _ => rfl, h11_, h12_, h13_, h14_, h15_, h16_, h17_, h18_, h19_, h20_, h21_, hI⟩
        · intro D hD_ d9_0 x35 x34 x33 x32 x31 x30 x29 x28 x27 x26 x25 x24 x23 x22 x21 x20 x19 x18 x17 x16 x15 x14 w_
          rintro ⟨h0_, h1_, h2_, h3_, h4_, h5_, h6_, h7_, h8_, h9_, h10_, h11_, h12_, h13_, h14_, h15_, h16_, h17_, h18_, h19_, h20_, h21_, hI⟩
          obtain rfl := h9_ d9_0
          refine guard_true ?_
          exact ⟨h0_, h1_, h2_, h3_, h4_, h5_, h6_, h7_, h8_, h9_, h10_, fun _ => rfl, h12_, h13_, h14_, h15_, h16_, h17_, h18_, h19_, h20_, h21_, hI⟩
        · intro D hD_ d10_0 d11_1 d9_2 x35 x34 x33 x32 x31 x30 x29 x28 x27 x26 x25 x24 x23 x22 x21 x20 x19 x18 x17 x16 x15 x14 w_
          rintro ⟨h0_, h1_, h2_, h3_, h4_, h5_, h6_, h7_, h8_, h9_, h10_, h11_, h12_, h13_, h14_, h15_, h16_, h17_, h18_, h19_, h20_, h21_, hI⟩
          obtain rfl := h10_ d10_0
          obtain rfl := h11_ d11_1
          obtain rfl := h9_ d9_2
          refine guard_true ?_; refine r_indexAddr sl_SiClause hk' ?_
          exact ⟨h0_, h1_, h2_, h3_, h4_, h5_, h6_, h7_, h8_, h9_, h10_, h11_, fun _ => rfl, h13_, h14_, h15_, h16_, h17_, h18_, h19_, h20_, h21_, hI⟩
        · intro D hD_ d12_0 d9_1 x35 x34 x33 x32 x31 x30 x29 x28 x27 x26 x25 x24 x23 x22 x21 x20 x19 x18 x17 x16 x15 x14 w_
          rintro ⟨h0_, h1_, h2_, h3_, h4_, h5_, h6_, h7_, h8_, h9_, h10_, h11_, h12_, h13_, h14_, h15_, h16_, h17_, h18_, h19_, h20_, h21_, hI⟩
          obtain rfl := h12_ d12_0
          obtain rfl := h9_ d9_1
          refine guard_true ?_; refine r_field fo_iClause_0 ?_
          exact ⟨h0_, h1_, h2_, h3_, h4_, h5_, h6_, h7_, h8_, h9_, h10_, h11_, h12_, fun _ => rfl, h14_, h15_, h16_, h17_, h18_, h19_, h20_, h21_, hI⟩
        · intro D hD_ d13_0 d9_1 x35 x34 x33 x32 x31 x30 x29 x28 x27 x26 x25 x24 x23 x22 x21 x20 x19 x18 x17 x16 x15 x14 w_
          rintro ⟨h0_, h1_, h2_, h3_, h4_, h5_, h6_, h7_, h8_, h9_, h10_, h11_, h12_, h13_, h14_, h15_, h16_, h17_, h18_, h19_, h20_, h21_, hI⟩
          obtain rfl := h13_ d13_0
          obtain rfl := h9_ d9_1
          refine guard_true ?_; refine r_field fo_iTerm_3 ?_
          exact ⟨h0_, h1_, h2_, h3_, h4_, h5_, h6_, h7_, h8_, h9_, h10_, h11_, h12_, h13_, fun _ => rfl, h15_, h16_, h17_, h18_, h19_, h20_, h21_, hI⟩
        · intro D hD_ d14_0 d9_1 x35 x34 x33 x32 x31 x30 x29 x28 x27 x26 x25 x24 x23 x22 x21 x20 x19 x18 x17 x16 x15 x14 w_
          rintro ⟨h0_, h1_, h2_, h3_, h4_, h5_, h6_, h7_, h8_, h9_, h10_, h11_, h12_, h13_, h14_, h15_, h16_, h17_, h18_, h19_, h20_, h21_, hI⟩
          obtain rfl := h14_ d14_0
          obtain rfl := h9_ d9_1
          refine guard_true ?_; refine r_load sc_SiTerm (by rw [hI.cellS hS]; exact cellsAt_get hcs 3 _ rfl) ?_
          exact ⟨h0_, h1_, h2_, h3_, h4_, h5_, h6_, h7_, h8_, h9_, h10_, h11_, h12_, h13_, h14_, fun _ => rfl, h16_, h17_, h18_, h19_, h20_, h21_, hI⟩
        · intro D hD_ d15_0 d9_1 x35 x34 x33 x32 x31 x30 x29 x28 x27 x26 x25 x24 x23 x22 x21 x20 x19 x18 x17 x16 x15 x14 w_
          rintro ⟨h0_, h1_, h2_, h3_, h4_, h5_, h6_, h7_, h8_, h9_, h10_, h11_, h12_, h13_, h14_, h15_, h16_, h17_, h18_, h19_, h20_, h21_, hI⟩
          obtain rfl := h15_ d15_0
          obtain rfl := h9_ d9_1
          refine guard_true ?_; refine r_lenSl hk1 sl_SiTerm ?_
          exact ⟨h0_, h1_, h2_, h3_, h4_, h5_, h6_, h7_, h8_, h9_, h10_, h11_, h12_, h13_, h14_, h15_, fun _ => rfl, h17_, h18_, h19_, h20_, h21_, hI⟩
        · intro D hD_ d9_0 x35 x34 x33 x32 x31 x30 x29 x28 x27 x26 x25 x24 x23 x22 x21 x20 x19 x18 x17 x16 x15 x14 w_
          rintro ⟨h0_, h1_, h2_, h3_, h4_, h5_, h6_, h7_, h8_, h9_, h10_, h11_, h12_, h13_, h14_, h15_, h16_, h17_, h18_, h19_, h20_, h21_, hI⟩
          obtain rfl := h9_ d9_0
          refine guard_true ?_; refine r_field fo_iTerm_3 ?_
          exact ⟨h0_, h1_, h2_, h3_, h4_, h5_, h6_, h7_, h8_, h9_, h10_, h11_, h12_, h13_, h14_, h15_, h16_, fun _ => rfl, h18_, h19_, h20_, h21_, hI⟩
        · intro D hD_ d17_0 d9_1 x35 x34 x33 x32 x31 x30 x29 x28 x27 x26 x25 x24 x23 x22 x21 x20 x19 x18 x17 x16 x15 x14 w_
          rintro ⟨h0_, h1_, h2_, h3_, h4_, h5_, h6_, h7_, h8_, h9_, h10_, h11_, h12_, h13_, h14_, h15_, h16_, h17_, h18_, h19_, h20_, h21_, hI⟩
          obtain rfl := h17_ d17_0
          obtain rfl := h9_ d9_1
          refine guard_true ?_; refine r_loadL hI 0 sc_SiTerm rfl rfl ?_
          exact ⟨h0_, h1_, h2_, h3_, h4_, h5_, h6_, h7_, h8_, h9_, h10_, h11_, h12_, h13_, h14_, h15_, h16_, h17_, fun _ => rfl, h19_, h20_, h21_, hI⟩
        · intro D hD_ d18_0 d9_1 x35 x34 x33 x32 x31 x30 x29 x28 x27 x26 x25 x24 x23 x22 x21 x20 x19 x18 x17 x16 x15 x14 w_
          rintro ⟨h0_, h1_, h2_, h3_, h4_, h5_, h6_, h7_, h8_, h9_, h10_, h11_, h12_, h13_, h14_, h15_, h16_, h17_, h18_, h19_, h20_, h21_, hI⟩
          obtain rfl := h18_ d18_0
          obtain rfl := h9_ d9_1
          refine guard_true ?_; refine r_lenSl hgk sl_SiTerm ?_
          exact ⟨h0_, h1_, h2_, h3_, h4_, h5_, h6_, h7_, h8_, h9_, h10_, h11_, h12_, h13_, h14_, h15_, h16_, h17_, h18_, fun _ => rfl, h20_, h21_, hI⟩
        · intro D hD_ d16_0 d19_1 d9_2 x35 x34 x33 x32 x31 x30 x29 x28 x27 x26 x25 x24 x23 x22 x21 x20 x19 x18 x17 x16 x15 x14 w_
          rintro ⟨h0_, h1_, h2_, h3_, h4_, h5_, h6_, h7_, h8_, h9_, h10_, h11_, h12_, h13_, h14_, h15_, h16_, h17_, h18_, h19_, h20_, h21_, hI⟩
          obtain rfl := h16_ d16_0
          obtain rfl := h19_ d19_1
          obtain rfl := h9_ d9_2
          refine guard_true ?_; refine r_eql ?_
          exact ⟨h0_, h1_, h2_, h3_, h4_, h5_, h6_, h7_, h8_, h9_, h10_, h11_, h12_, h13_, h14_, h15_, h16_, h17_, h18_, h19_, fun _ => rfl, h21_, hI⟩
        · intro D hD_ d9_0 d20_1 x35 x34 x33 x32 x31 x30 x29 x28 x27 x26 x25 x24 x23 x22 x21 x20 x19 x18 x17 x16 x15 x14 w_
          rintro ⟨h0_, h1_, h2_, h3_, h4_, h5_, h6_, h7_, h8_, h9_, h10_, h11_, h12_, h13_, h14_, h15_, h16_, h17_, h18_, h19_, h20_, h21_, hI⟩
          obtain rfl := h9_ d9_0
          obtain rfl := h20_ d20_1
          refine r_pickT ?_
          exact ⟨h0_, h1_, h2_, h3_, h4_, h5_, h6_, h7_, h8_, h9_, h10_, h11_, h12_, h13_, h14_, h15_, h16_, h17_, h18_, h19_, h20_, fun _ => rfl, hI⟩
        intro D d21_ d20_ d19_ d18_ d17_ d16_ d15_ d14_ d13_ d12_ d11_ d10_ d9_ d8_ d7_ d6_ d5_ d4_ d3_ d2_ d1_ d0_ x35 x34 x33 x32 x31 x30 x29 x28 x27 x26 x25 x24 x23 x22 x21 x20 x19 x18 x17 x16 x15 x14 w_
        rintro ⟨h0_, h1_, h2_, h3_, h4_, h5_, h6_, h7_, h8_, h9_, h10_, h11_, h12_, h13_, h14_, h15_, h16_, h17_, h18_, h19_, h20_, h21_, hI⟩
        obtain rfl := h21_ d21_
        obtain rfl := h20_ d20_
        obtain rfl := h19_ d19_
        obtain rfl := h18_ d18_
        obtain rfl := h17_ d17_
        obtain rfl := h16_ d16_
        obtain rfl := h15_ d15_
        obtain rfl := h14_ d14_
        obtain rfl := h13_ d13_
        obtain rfl := h12_ d12_
        obtain rfl := h11_ d11_
        obtain rfl := h10_ d10_
        obtain rfl := h9_ d9_
        obtain rfl := h8_ d8_
        obtain rfl := h7_ d7_
        obtain rfl := h6_ d6_
        obtain rfl := h5_ d5_
        obtain rfl := h4_ d4_
        obtain rfl := h3_ d3_
        obtain rfl := h2_ d2_
        obtain rfl := h1_ d1_
        obtain rfl := h0_ d0_
        clear h0_ h1_ h2_ h3_ h4_ h5_ h6_ h7_ h8_ h9_ h10_ h11_ h12_ h13_ h14_ h15_ h16_ h17_ h18_ h19_ h20_ h21_
        refine condV (fun hb => ?_) (fun hb => ?_)
        · refine r_slice1 hI mk_Sint rfl (by omega) (by omega) fun b w' hI => ?_
          refine r_append hI 1 (k := 1) [.int .i64 k] mk_Sint (by omega) rfl rfl ?_ ?_ (by omega) (by omega) fun v' w' hI => ?_
          · intro j u hj
            rw [hI.cellL (i := 2) rfl]
            match j with
            | 0 => simpa [Value.cells] using hj
            | j + 1 => simp at hj
          · simp [Value.oneCell']
          · rw [ints_snoc] at hI
            have hI := hI.pick [true, true, false]
            rw [hf, if_pos hb]
            have e : Item.row v' t_int 1 (l.length + 1) (ints (l ++ [(k : Int)])) = rowI v' (l ++ [(k : Int)]) := by simp [rowI]
            rw [show List.length l + 1 = l.length + 1 from rfl, e] at hI
            exact hI
        · rw [hf, if_neg (by rw [hb]; decide)]
          exact hI
    intro t5 _ _ _ _ _ _ _ _ _ _ _ _ _ _ _ _ _ _ _ _ _ _ _ _ _ _ w' hI
    refine r_add (by omega) ?_
    refine ⟨⟨k + 1, _, hk', rfl, ?_, ?_, hI⟩, by simp [intOf]; omega⟩
    · rw [posOf_step (fun c => eqPd (predT c.head) (predT (.mk gk gn gs gks))) p k hk' l, hrel]
    · split
      · simp; omega
      · omega
  · have : k = p.length := by omega
    subst this
    rw [List.drop_length, posOf, List.append_nil] at hrel
    subst hrel
    exact ⟨_, _, _, rfl, hI.pick [false, true], Ext.refl _ _ _, rfl, rfl⟩

end Go.Proofs.Ytnoieadimkgjcaa
