/- spec.l16Put, l16Has. -/
import Derived.Test.YtgdibnmabnimaaaZMc2
import Derived.Test.YtgdibnmabnimaaaZMc3
import Derived.Test.YtgdibnmabnimaaaZMc0
namespace Go.Proofs.Ytgdibnmabnimaaa
open Go Go.RowKit
abbrev PostL (ys : List T) : Value → List Item → Store → Prop := fun r I' S' => I' = [] ∧ RdSl S' 4 (RdT S') r ys
theorem insT_split (l : List T) (t : T) (j : Nat) (h : j < l.length) (hc : cmpT l[j] t < 0) : insT (l.drop j) t = l[j] :: insT (l.drop (j + 1)) t := by
  rw [List.drop_eq_getElem_cons h, insT, if_pos hc]
theorem insT_stop (l : List T) (t : T) (j : Nat) (h : j < l.length) (hc : ¬ cmpT l[j] t < 0) : insT (l.drop j) t = if eqT l[j] t = true then l.drop j else t :: l.drop j := by
  rw [List.drop_eq_getElem_cons h, insT, if_neg hc]
section
attribute [local irreducible] Run CondV GuardV LoadV
theorem put_tail {l : List T} {t : T} {S : Store} {v : Value} {cs : List Value} {w w0 : World} {b3 : Nat} {K : Value → World → Prop} (j : Nat) (hI : Inv w0 [] [.blk b3 (.cells cs.toArray t_iTerm)] S w) (h : RdSl S 4 (RdT S) v l) (hcs : RdT S cs t) (hj : j ≤ l.length) (hn : l.length ≤ 1000000)
    (hk : ∀ r S' w', Ext w0.heap.size [] S S' → RdSl S' 4 (RdT S') r (l.take j ++ t :: l.drop j) → Inv w0 [] [] S' w' → K r w') :
    Run Try.prog (sBuildSlice t_SiTerm 0 []) w fun t35 w52 =>
    Run Try.prog (sOp (.slice t_SiTerm (.const v) none (some (.const (.int .i64 j))) none) t_SiTerm) w52 fun t38 w53 =>
    Run Try.prog (sBuiltin .append #[t_SiTerm, t_SiTerm] t_SiTerm [false, false] [t35, t38]) w53 fun t39 w54 =>
    Run Try.prog (sOp (.load t_iTerm (.const (.pointer (some ⟨b3, 0, none⟩)))) t_iTerm) w54 fun t41 w55 =>
    Run Try.prog (sBuildSlice t_SiTerm 1 [(0, t41)]) w55 fun t42 w56 =>
    Run Try.prog (sBuiltin .append #[t_SiTerm, t_SiTerm] t_SiTerm [false, false] [t39, t42]) w56 fun t43 w57 =>
    Run Try.prog (sOp (.slice t_SiTerm (.const v) (some (.const (.int .i64 j))) none none) t_SiTerm) w57 fun t47 w58 =>
    Run Try.prog (sBuiltin .append #[t_SiTerm, t_SiTerm] t_SiTerm [false, false] [t43, t47]) w58 fun t48 w59 =>
    K t48 w59 := by
  have hlc := hcs.length
  refine r_slice0 hI mk_SiTerm fun v0 w hI => ?_
  refine r_sliceTo sl_SiTerm h hj fun v1 h1 => ?_
  refine r_appendRd hI 1 (css := []) mk_SiTerm (by omega) rfl h1 (fun _ _ => RdT.length) (fun _ _ => RdT.one) (by simp; omega) (by omega) fun v2 w c1 hR1 hI => ?_
  have hI : Inv w0 [] [.blk b3 (.cells cs.toArray t_iTerm), rowG v2 t_iTerm 4 c1] S w := by simpa using hI
  have hc1 := hR1.hc
  simp only [List.length_take] at hc1
  refine r_loadW hI 0 ag_iTerm rfl (by simpa using hlc) ?_
  refine r_append1 hI 1 cs mk_SiTerm (by omega) (by omega) rfl hlc hcs.one (by omega) (by omega) fun v3 w hI => ?_
  have hR2 := hR1.snoc hcs hlc
  refine r_sliceFrom sl_SiTerm h hj fun v4 h4 => ?_
  refine r_appendRd hI 1 (css := c1 ++ [cs]) mk_SiTerm (by omega) rfl h4 (fun _ _ => RdT.length) (fun _ _ => RdT.one) (by simp; omega) (by omega) fun v5 w c2 hR3 hI => ?_
  have hR := hR2.append hR3
  have hI : Inv w0 [] ([.blk b3 (.cells cs.toArray t_iTerm)] ++ [rowG v5 t_iTerm 4 ((c1 ++ [cs]) ++ c2)]) S w := hI
  obtain ⟨S', hE, hrd, hI⟩ := hI.lendExt
  have hr : RdSl S' 4 (RdT S') v5 ((l.take j ++ [t]) ++ l.drop j) := (RowRd.rows hR hrd).mono (Sle.refl _) fun _ _ h => h.mono hE.1
  rw [List.append_assoc] at hr
  exact hk _ _ _ hE hr (hI.pick [false])
theorem l16Put_calls {l : List T} {t : T} {S : Store} {v : Value} {cs : List Value} (h : RdSl S 4 (RdT S) v l) (hcs : RdT S cs t) (hl : ∀ x ∈ l, okO x) (ht : okO t) (hn : l.length ≤ 1000000) :
    Tri Try.prog n_s_l16Put [v, .agg cs.toArray] [] S (PostL (insT l t)) := by
  intro w hI
  have hlc := hcs.length
  refine calls_s_l16Put ?_
  unfold sh_s_l16Put
  refine r_box hI fun b3 w' hI => ?_
  have hI : Inv w [] [.blk b3 (.cells cs.toArray t_iTerm)] S w' := hI
  refine ⟨fun i w' => ∃ j : Nat, j ≤ l.length ∧ i = .int .i64 j ∧ l.take j ++ insT (l.drop j) t = insT l t ∧ Inv w [] [.blk b3 (.cells cs.toArray t_iTerm)] S w',
    fun i _ => l.length - (intOf i).toNat, ⟨0, Nat.zero_le _, rfl, rfl, hI⟩, ?_⟩
  intro t5 _ _ _ _ _ _ _ _ _ _ _ _ _ _ _ w'
  rintro ⟨j, hj, rfl, hrel, hI⟩
  by_cases hj' : j < l.length
  · obtain ⟨b, o, cap, c, E, fz, rfl, hS, hR⟩ := h.at_ hj'
    have hox := hl _ (List.getElem_mem hj')
    refine ⟨fun D x19 x18 x17 x16 x15 x14 x13 x12 x11 x10 x9 x8 x7 w_ => (D 0 = true → x7 = .int .i64 j) ∧ (D 1 = true → x8 = .slice (some ⟨b, o, none⟩) l.length cap) ∧ (D 2 = true → x9 = .int .i64 l.length) ∧ (D 3 = true → x10 = .bool true) ∧ (D 4 = true → x11 = .bool true) ∧ (D 5 = true → x12 = .slice (some ⟨b, o, none⟩) l.length cap) ∧ (D 6 = true → x13 = .int .i64 j) ∧ (D 7 = true → x14 = .pointer (some ⟨b, o + j * 4, none⟩)) ∧ (D 8 = true → x15 = .agg (cellsAt c (o + j * 4) 4).toArray) ∧ (D 9 = true → x16 = .agg cs.toArray) ∧ (D 10 = true → x17 = .int .i64 (cmpT l[j] t)) ∧ (D 11 = true → x18 = .bool (decide (cmpT l[j] t < 0))) ∧ (D 12 = true → x19 = .bool (decide (cmpT l[j] t < 0))) ∧ Inv w [] [.blk b3 (.cells cs.toArray t_iTerm)] S w_, ⟨fun h => Bool.noConfusion h, fun h => Bool.noConfusion h, fun h => Bool.noConfusion h, fun h => Bool.noConfusion h, fun h => Bool.noConfusion h, fun h => Bool.noConfusion h, fun h => Bool.noConfusion h, fun h => Bool.noConfusion h, fun h => Bool.noConfusion h, fun h => Bool.noConfusion h, fun h => Bool.noConfusion h, fun h => Bool.noConfusion h, fun h => Bool.noConfusion h, hI.draw⟩, ⟨?_, ?_, ?_, ?_, ?_, ?_, ?_, ?_, ?_, ?_, ?_, ?_, ?_, trivial⟩, ?_⟩
    · intro D hD_  x19 x18 x17 x16 x15 x14 x13 x12 x11 x10 x9 x8 x7 w_
      rintro ⟨h0_, h1_, h2_, h3_, h4_, h5_, h6_, h7_, h8_, h9_, h10_, h11_, h12_, hI⟩
      exact ⟨fun _ => rfl, h1_, h2_, h3_, h4_, h5_, h6_, h7_, h8_, h9_, h10_, h11_, h12_, hI⟩
    · intro D hD_  x19 x18 x17 x16 x15 x14 x13 x12 x11 x10 x9 x8 x7 w_
      rintro ⟨h0_, h1_, h2_, h3_, h4_, h5_, h6_, h7_, h8_, h9_, h10_, h11_, h12_, hI⟩
      exact ⟨h0_, fun _ => rfl, h2_, h3_, h4_, h5_, h6_, h7_, h8_, h9_, h10_, h11_, h12_, hI⟩
    · intro D hD_ d1_0 x19 x18 x17 x16 x15 x14 x13 x12 x11 x10 x9 x8 x7 w_
      rintro ⟨h0_, h1_, h2_, h3_, h4_, h5_, h6_, h7_, h8_, h9_, h10_, h11_, h12_, hI⟩
      obtain rfl := h1_ d1_0
      refine r_len sl_SiTerm ?_
      exact ⟨h0_, h1_, fun _ => rfl, h3_, h4_, h5_, h6_, h7_, h8_, h9_, h10_, h11_, h12_, hI⟩
    · intro D hD_ d0_0 d2_1 x19 x18 x17 x16 x15 x14 x13 x12 x11 x10 x9 x8 x7 w_
      rintro ⟨h0_, h1_, h2_, h3_, h4_, h5_, h6_, h7_, h8_, h9_, h10_, h11_, h12_, hI⟩
      obtain rfl := h0_ d0_0
      obtain rfl := h2_ d2_1
      refine r_lss ?_; rw [decide_eq_true (show (j : Int) < (l.length : Int) by omega)]
      exact ⟨h0_, h1_, h2_, fun _ => rfl, h4_, h5_, h6_, h7_, h8_, h9_, h10_, h11_, h12_, hI⟩
    · intro D hD_ d3_0 x19 x18 x17 x16 x15 x14 x13 x12 x11 x10 x9 x8 x7 w_
      rintro ⟨h0_, h1_, h2_, h3_, h4_, h5_, h6_, h7_, h8_, h9_, h10_, h11_, h12_, hI⟩
      obtain rfl := h3_ d3_0
      exact ⟨h0_, h1_, h2_, h3_, fun _ => rfl, h5_, h6_, h7_, h8_, h9_, h10_, h11_, h12_, hI⟩
    · intro D hD_ d4_0 x19 x18 x17 x16 x15 x14 x13 x12 x11 x10 x9 x8 x7 w_
      rintro ⟨h0_, h1_, h2_, h3_, h4_, h5_, h6_, h7_, h8_, h9_, h10_, h11_, h12_, hI⟩
      obtain rfl := h4_ d4_0
      repeat (first | refine guard_true ?_ | refine guard_ne (by decide) ?_ | refine guard_undef ?_ | refine r_pickT ?_ | refine r_pickF ?_)
      exact ⟨h0_, h1_, h2_, h3_, h4_, fun _ => rfl, h6_, h7_, h8_, h9_, h10_, h11_, h12_, hI⟩
    · intro D hD_ d4_0 x19 x18 x17 x16 x15 x14 x13 x12 x11 x10 x9 x8 x7 w_
      rintro ⟨h0_, h1_, h2_, h3_, h4_, h5_, h6_, h7_, h8_, h9_, h10_, h11_, h12_, hI⟩
      obtain rfl := h4_ d4_0
      repeat (first | refine guard_true ?_ | refine guard_ne (by decide) ?_ | refine guard_undef ?_ | refine r_pickT ?_ | refine r_pickF ?_)
      exact ⟨h0_, h1_, h2_, h3_, h4_, h5_, fun _ => rfl, h7_, h8_, h9_, h10_, h11_, h12_, hI⟩
    · intro D hD_ d5_0 d6_1 d4_2 x19 x18 x17 x16 x15 x14 x13 x12 x11 x10 x9 x8 x7 w_
      rintro ⟨h0_, h1_, h2_, h3_, h4_, h5_, h6_, h7_, h8_, h9_, h10_, h11_, h12_, hI⟩
      obtain rfl := h5_ d5_0
      obtain rfl := h6_ d6_1
      obtain rfl := h4_ d4_2
      repeat (first | refine guard_true ?_ | refine guard_ne (by decide) ?_ | refine guard_undef ?_ | refine r_pickT ?_ | refine r_pickF ?_)
      refine r_indexAddr sl_SiTerm hj' ?_
      exact ⟨h0_, h1_, h2_, h3_, h4_, h5_, h6_, fun _ => rfl, h8_, h9_, h10_, h11_, h12_, hI⟩
    · intro D hD_ d7_0 d4_1 x19 x18 x17 x16 x15 x14 x13 x12 x11 x10 x9 x8 x7 w_
      rintro ⟨h0_, h1_, h2_, h3_, h4_, h5_, h6_, h7_, h8_, h9_, h10_, h11_, h12_, hI⟩
      obtain rfl := h7_ d7_0
      obtain rfl := h4_ d4_1
      repeat (first | refine guard_true ?_ | refine guard_ne (by decide) ?_ | refine guard_undef ?_ | refine r_pickT ?_ | refine r_pickF ?_)
      refine r_loadA ag_iTerm hR.length (fun j v hj => by rw [hI.cellS hS]; exact cellsAt_get rfl j v hj) ?_
      exact ⟨h0_, h1_, h2_, h3_, h4_, h5_, h6_, h7_, fun _ => rfl, h9_, h10_, h11_, h12_, hI⟩
    · intro D hD_ d4_0 x19 x18 x17 x16 x15 x14 x13 x12 x11 x10 x9 x8 x7 w_
      rintro ⟨h0_, h1_, h2_, h3_, h4_, h5_, h6_, h7_, h8_, h9_, h10_, h11_, h12_, hI⟩
      obtain rfl := h4_ d4_0
      repeat (first | refine guard_true ?_ | refine guard_ne (by decide) ?_ | refine guard_undef ?_ | refine r_pickT ?_ | refine r_pickF ?_)
      refine r_loadW hI 0 ag_iTerm rfl (by simpa using hlc) ?_
      exact ⟨h0_, h1_, h2_, h3_, h4_, h5_, h6_, h7_, h8_, fun _ => rfl, h10_, h11_, h12_, hI⟩
    · intro D hD_ d8_0 d9_1 d4_2 d4_3 x19 x18 x17 x16 x15 x14 x13 x12 x11 x10 x9 x8 x7 w_
      rintro ⟨h0_, h1_, h2_, h3_, h4_, h5_, h6_, h7_, h8_, h9_, h10_, h11_, h12_, hI⟩
      obtain rfl := h8_ d8_0
      obtain rfl := h9_ d9_1
      obtain rfl := h4_ d4_2
      repeat (first | refine guard_true ?_ | refine guard_ne (by decide) ?_ | refine guard_undef ?_ | refine r_pickT ?_ | refine r_pickF ?_)
      refine Run.callPure fn_s_l1Compare nm_s_l1Compare hI (l1Compare_calls _ _ S _ _ hR hcs hox ht) fun w_ hI => ?_
      exact ⟨h0_, h1_, h2_, h3_, h4_, h5_, h6_, h7_, h8_, h9_, fun _ => rfl, h11_, h12_, hI⟩
    · intro D hD_ d10_0 d4_1 x19 x18 x17 x16 x15 x14 x13 x12 x11 x10 x9 x8 x7 w_
      rintro ⟨h0_, h1_, h2_, h3_, h4_, h5_, h6_, h7_, h8_, h9_, h10_, h11_, h12_, hI⟩
      obtain rfl := h10_ d10_0
      obtain rfl := h4_ d4_1
      repeat (first | refine guard_true ?_ | refine guard_ne (by decide) ?_ | refine guard_undef ?_ | refine r_pickT ?_ | refine r_pickF ?_)
      refine r_lss ?_
      exact ⟨h0_, h1_, h2_, h3_, h4_, h5_, h6_, h7_, h8_, h9_, h10_, fun _ => rfl, h12_, hI⟩
    · intro D hD_ d4_0 d11_1 x19 x18 x17 x16 x15 x14 x13 x12 x11 x10 x9 x8 x7 w_
      rintro ⟨h0_, h1_, h2_, h3_, h4_, h5_, h6_, h7_, h8_, h9_, h10_, h11_, h12_, hI⟩
      obtain rfl := h4_ d4_0
      obtain rfl := h11_ d11_1
      repeat (first | refine guard_true ?_ | refine guard_ne (by decide) ?_ | refine guard_undef ?_ | refine r_pickT ?_ | refine r_pickF ?_)
      exact ⟨h0_, h1_, h2_, h3_, h4_, h5_, h6_, h7_, h8_, h9_, h10_, h11_, fun _ => rfl, hI⟩
    intro D d12_ d11_ d10_ d9_ d8_ d7_ d6_ d5_ d4_ d3_ d2_ d1_ d0_ x19 x18 x17 x16 x15 x14 x13 x12 x11 x10 x9 x8 x7 w_
    rintro ⟨h0_, h1_, h2_, h3_, h4_, h5_, h6_, h7_, h8_, h9_, h10_, h11_, h12_, hI⟩
    obtain rfl := h12_ d12_
    obtain rfl := h11_ d11_
    obtain rfl := h10_ d10_
    obtain rfl := h9_ d9_
    obtain rfl := h8_ d8_
    obtain rfl := h7_ d7_
    obtain rfl := h6_ d6_
    obtain rfl := h5_ d5_
    obtain rfl := h4_ d4_
    obtain rfl := h3_ d3_
    obtain rfl := h2_ d2_
    obtain rfl := h1_ d1_
    obtain rfl := h0_ d0_
    clear h0_ h1_ h2_ h3_ h4_ h5_ h6_ h7_ h8_ h9_ h10_ h11_ h12_
    refine condP (fun hc => ?_) (fun hc => ?_)
    · refine r_add (by omega) ?_
      refine ⟨⟨j + 1, hj', rfl, ?_, hI⟩, by simp [intOf]; omega⟩
      rw [← hrel, insT_split l t j hj' hc, List.take_succ_eq_append_getElem hj', List.append_assoc]
      rfl
    rw [insT_stop l t j hj' hc] at hrel
    refine ⟨fun D x33 x32 x31 x30 x29 x28 x27 x26 x25 x24 x23 x22 w_ => (D 0 = true → x22 = .int .i64 j) ∧ (D 1 = true → x23 = .slice (some ⟨b, o, none⟩) l.length cap) ∧ (D 2 = true → x24 = .int .i64 l.length) ∧ (D 3 = true → x25 = .bool true) ∧ (D 4 = true → x26 = .bool true) ∧ (D 5 = true → x27 = .slice (some ⟨b, o, none⟩) l.length cap) ∧ (D 6 = true → x28 = .int .i64 j) ∧ (D 7 = true → x29 = .pointer (some ⟨b, o + j * 4, none⟩)) ∧ (D 8 = true → x30 = .agg (cellsAt c (o + j * 4) 4).toArray) ∧ (D 9 = true → x31 = .agg cs.toArray) ∧ (D 10 = true → x32 = .bool (eqT l[j] t)) ∧ (D 11 = true → x33 = .bool (eqT l[j] t)) ∧ Inv w [] [.blk b3 (.cells cs.toArray t_iTerm)] S w_, ⟨fun h => Bool.noConfusion h, fun h => Bool.noConfusion h, fun h => Bool.noConfusion h, fun h => Bool.noConfusion h, fun h => Bool.noConfusion h, fun h => Bool.noConfusion h, fun h => Bool.noConfusion h, fun h => Bool.noConfusion h, fun h => Bool.noConfusion h, fun h => Bool.noConfusion h, fun h => Bool.noConfusion h, fun h => Bool.noConfusion h, hI.draw⟩, ⟨?_, ?_, ?_, ?_, ?_, ?_, ?_, ?_, ?_, ?_, ?_, ?_, trivial⟩, ?_⟩
    · intro D hD_  x33 x32 x31 x30 x29 x28 x27 x26 x25 x24 x23 x22 w_
      rintro ⟨h0_, h1_, h2_, h3_, h4_, h5_, h6_, h7_, h8_, h9_, h10_, h11_, hI⟩
      exact ⟨fun _ => rfl, h1_, h2_, h3_, h4_, h5_, h6_, h7_, h8_, h9_, h10_, h11_, hI⟩
    · intro D hD_  x33 x32 x31 x30 x29 x28 x27 x26 x25 x24 x23 x22 w_
      rintro ⟨h0_, h1_, h2_, h3_, h4_, h5_, h6_, h7_, h8_, h9_, h10_, h11_, hI⟩
      exact ⟨h0_, fun _ => rfl, h2_, h3_, h4_, h5_, h6_, h7_, h8_, h9_, h10_, h11_, hI⟩
    · intro D hD_ d1_0 x33 x32 x31 x30 x29 x28 x27 x26 x25 x24 x23 x22 w_
      rintro ⟨h0_, h1_, h2_, h3_, h4_, h5_, h6_, h7_, h8_, h9_, h10_, h11_, hI⟩
      obtain rfl := h1_ d1_0
      refine r_len sl_SiTerm ?_
      exact ⟨h0_, h1_, fun _ => rfl, h3_, h4_, h5_, h6_, h7_, h8_, h9_, h10_, h11_, hI⟩
    · intro D hD_ d0_0 d2_1 x33 x32 x31 x30 x29 x28 x27 x26 x25 x24 x23 x22 w_
      rintro ⟨h0_, h1_, h2_, h3_, h4_, h5_, h6_, h7_, h8_, h9_, h10_, h11_, hI⟩
      obtain rfl := h0_ d0_0
      obtain rfl := h2_ d2_1
      refine r_lss ?_; rw [decide_eq_true (show (j : Int) < (l.length : Int) by omega)]
      exact ⟨h0_, h1_, h2_, fun _ => rfl, h4_, h5_, h6_, h7_, h8_, h9_, h10_, h11_, hI⟩
    · intro D hD_ d3_0 x33 x32 x31 x30 x29 x28 x27 x26 x25 x24 x23 x22 w_
      rintro ⟨h0_, h1_, h2_, h3_, h4_, h5_, h6_, h7_, h8_, h9_, h10_, h11_, hI⟩
      obtain rfl := h3_ d3_0
      exact ⟨h0_, h1_, h2_, h3_, fun _ => rfl, h5_, h6_, h7_, h8_, h9_, h10_, h11_, hI⟩
    · intro D hD_ d4_0 x33 x32 x31 x30 x29 x28 x27 x26 x25 x24 x23 x22 w_
      rintro ⟨h0_, h1_, h2_, h3_, h4_, h5_, h6_, h7_, h8_, h9_, h10_, h11_, hI⟩
      obtain rfl := h4_ d4_0
      repeat (first | refine guard_true ?_ | refine guard_ne (by decide) ?_ | refine guard_undef ?_ | refine r_pickT ?_ | refine r_pickF ?_)
      exact ⟨h0_, h1_, h2_, h3_, h4_, fun _ => rfl, h6_, h7_, h8_, h9_, h10_, h11_, hI⟩
    · intro D hD_ d4_0 x33 x32 x31 x30 x29 x28 x27 x26 x25 x24 x23 x22 w_
      rintro ⟨h0_, h1_, h2_, h3_, h4_, h5_, h6_, h7_, h8_, h9_, h10_, h11_, hI⟩
      obtain rfl := h4_ d4_0
      repeat (first | refine guard_true ?_ | refine guard_ne (by decide) ?_ | refine guard_undef ?_ | refine r_pickT ?_ | refine r_pickF ?_)
      exact ⟨h0_, h1_, h2_, h3_, h4_, h5_, fun _ => rfl, h7_, h8_, h9_, h10_, h11_, hI⟩
    · intro D hD_ d5_0 d6_1 d4_2 x33 x32 x31 x30 x29 x28 x27 x26 x25 x24 x23 x22 w_
      rintro ⟨h0_, h1_, h2_, h3_, h4_, h5_, h6_, h7_, h8_, h9_, h10_, h11_, hI⟩
      obtain rfl := h5_ d5_0
      obtain rfl := h6_ d6_1
      obtain rfl := h4_ d4_2
      repeat (first | refine guard_true ?_ | refine guard_ne (by decide) ?_ | refine guard_undef ?_ | refine r_pickT ?_ | refine r_pickF ?_)
      refine r_indexAddr sl_SiTerm hj' ?_
      exact ⟨h0_, h1_, h2_, h3_, h4_, h5_, h6_, fun _ => rfl, h8_, h9_, h10_, h11_, hI⟩
    · intro D hD_ d7_0 d4_1 x33 x32 x31 x30 x29 x28 x27 x26 x25 x24 x23 x22 w_
      rintro ⟨h0_, h1_, h2_, h3_, h4_, h5_, h6_, h7_, h8_, h9_, h10_, h11_, hI⟩
      obtain rfl := h7_ d7_0
      obtain rfl := h4_ d4_1
      repeat (first | refine guard_true ?_ | refine guard_ne (by decide) ?_ | refine guard_undef ?_ | refine r_pickT ?_ | refine r_pickF ?_)
      refine r_loadA ag_iTerm hR.length (fun j v hj => by rw [hI.cellS hS]; exact cellsAt_get rfl j v hj) ?_
      exact ⟨h0_, h1_, h2_, h3_, h4_, h5_, h6_, h7_, fun _ => rfl, h9_, h10_, h11_, hI⟩
    · intro D hD_ d4_0 x33 x32 x31 x30 x29 x28 x27 x26 x25 x24 x23 x22 w_
      rintro ⟨h0_, h1_, h2_, h3_, h4_, h5_, h6_, h7_, h8_, h9_, h10_, h11_, hI⟩
      obtain rfl := h4_ d4_0
      repeat (first | refine guard_true ?_ | refine guard_ne (by decide) ?_ | refine guard_undef ?_ | refine r_pickT ?_ | refine r_pickF ?_)
      refine r_loadW hI 0 ag_iTerm rfl (by simpa using hlc) ?_
      exact ⟨h0_, h1_, h2_, h3_, h4_, h5_, h6_, h7_, h8_, fun _ => rfl, h10_, h11_, hI⟩
    · intro D hD_ d8_0 d9_1 d4_2 d4_3 x33 x32 x31 x30 x29 x28 x27 x26 x25 x24 x23 x22 w_
      rintro ⟨h0_, h1_, h2_, h3_, h4_, h5_, h6_, h7_, h8_, h9_, h10_, h11_, hI⟩
      obtain rfl := h8_ d8_0
      obtain rfl := h9_ d9_1
      obtain rfl := h4_ d4_2
      repeat (first | refine guard_true ?_ | refine guard_ne (by decide) ?_ | refine guard_undef ?_ | refine r_pickT ?_ | refine r_pickF ?_)
      refine Run.callPure fn_s_TermSame nm_s_TermSame hI (s_TermSame_calls _ _ S _ _ hR hcs) fun w_ hI => ?_
      exact ⟨h0_, h1_, h2_, h3_, h4_, h5_, h6_, h7_, h8_, h9_, fun _ => rfl, h11_, hI⟩
    · intro D hD_ d4_0 d10_1 x33 x32 x31 x30 x29 x28 x27 x26 x25 x24 x23 x22 w_
      rintro ⟨h0_, h1_, h2_, h3_, h4_, h5_, h6_, h7_, h8_, h9_, h10_, h11_, hI⟩
      obtain rfl := h4_ d4_0
      obtain rfl := h10_ d10_1
      repeat (first | refine guard_true ?_ | refine guard_ne (by decide) ?_ | refine guard_undef ?_ | refine r_pickT ?_ | refine r_pickF ?_)
      exact ⟨h0_, h1_, h2_, h3_, h4_, h5_, h6_, h7_, h8_, h9_, h10_, fun _ => rfl, hI⟩
    intro D d11_ d10_ d9_ d8_ d7_ d6_ d5_ d4_ d3_ d2_ d1_ d0_ x33 x32 x31 x30 x29 x28 x27 x26 x25 x24 x23 x22 w_
    rintro ⟨h0_, h1_, h2_, h3_, h4_, h5_, h6_, h7_, h8_, h9_, h10_, h11_, hI⟩
    obtain rfl := h11_ d11_
    obtain rfl := h10_ d10_
    obtain rfl := h9_ d9_
    obtain rfl := h8_ d8_
    obtain rfl := h7_ d7_
    obtain rfl := h6_ d6_
    obtain rfl := h5_ d5_
    obtain rfl := h4_ d4_
    obtain rfl := h3_ d3_
    obtain rfl := h2_ d2_
    obtain rfl := h1_ d1_
    obtain rfl := h0_ d0_
    clear h0_ h1_ h2_ h3_ h4_ h5_ h6_ h7_ h8_ h9_ h10_ h11_
    refine condV (fun he => ?_) (fun he => ?_)
    · rw [if_pos he, List.take_append_drop] at hrel
      rw [← hrel]
      exact ⟨_, _, _, rfl, hI.pick [false], Ext.refl _ _ _, rfl, h⟩
    · rw [if_neg (by rw [he]; decide)] at hrel
      rw [← hrel]
      exact put_tail j hI h hcs hj hn fun r S' w' hE hr hI => ⟨_, _, _, rfl, hI, hE, rfl, hr⟩
  · have hje : j = l.length := by omega
    have hv : ∃ a m, v = .slice a l.length m := by
      obtain ⟨a, m, e, _⟩ := h
      exact ⟨a, m, e⟩
    obtain ⟨a, m, rfl⟩ := hv
    rw [List.drop_eq_nil_of_le (by omega), insT] at hrel
    refine ⟨fun D x19 x18 x17 x16 x15 x14 x13 x12 x11 x10 x9 x8 x7 w_ => (D 0 = true → x7 = .int .i64 j) ∧ (D 1 = true → x8 = .slice a l.length m) ∧ (D 2 = true → x9 = .int .i64 l.length) ∧ (D 3 = true → x10 = .bool false) ∧ (D 4 = true → x11 = .bool false) ∧ (D 5 = true → x12 = undef) ∧ (D 6 = true → x13 = undef) ∧ (D 7 = true → x14 = undef) ∧ (D 8 = true → x15 = undef) ∧ (D 9 = true → x16 = undef) ∧ (D 10 = true → x17 = undef) ∧ (D 11 = true → x18 = undef) ∧ (D 12 = true → x19 = .bool false) ∧ Inv w [] [.blk b3 (.cells cs.toArray t_iTerm)] S w_, ⟨fun h => Bool.noConfusion h, fun h => Bool.noConfusion h, fun h => Bool.noConfusion h, fun h => Bool.noConfusion h, fun h => Bool.noConfusion h, fun h => Bool.noConfusion h, fun h => Bool.noConfusion h, fun h => Bool.noConfusion h, fun h => Bool.noConfusion h, fun h => Bool.noConfusion h, fun h => Bool.noConfusion h, fun h => Bool.noConfusion h, fun h => Bool.noConfusion h, hI.draw⟩, ⟨?_, ?_, ?_, ?_, ?_, ?_, ?_, ?_, ?_, ?_, ?_, ?_, ?_, trivial⟩, ?_⟩
    · intro D hD_  x19 x18 x17 x16 x15 x14 x13 x12 x11 x10 x9 x8 x7 w_
      rintro ⟨h0_, h1_, h2_, h3_, h4_, h5_, h6_, h7_, h8_, h9_, h10_, h11_, h12_, hI⟩
      exact ⟨fun _ => rfl, h1_, h2_, h3_, h4_, h5_, h6_, h7_, h8_, h9_, h10_, h11_, h12_, hI⟩
    · intro D hD_  x19 x18 x17 x16 x15 x14 x13 x12 x11 x10 x9 x8 x7 w_
      rintro ⟨h0_, h1_, h2_, h3_, h4_, h5_, h6_, h7_, h8_, h9_, h10_, h11_, h12_, hI⟩
      exact ⟨h0_, fun _ => rfl, h2_, h3_, h4_, h5_, h6_, h7_, h8_, h9_, h10_, h11_, h12_, hI⟩
    · intro D hD_ d1_0 x19 x18 x17 x16 x15 x14 x13 x12 x11 x10 x9 x8 x7 w_
      rintro ⟨h0_, h1_, h2_, h3_, h4_, h5_, h6_, h7_, h8_, h9_, h10_, h11_, h12_, hI⟩
      obtain rfl := h1_ d1_0
      refine r_len sl_SiTerm ?_
      exact ⟨h0_, h1_, fun _ => rfl, h3_, h4_, h5_, h6_, h7_, h8_, h9_, h10_, h11_, h12_, hI⟩
    · intro D hD_ d0_0 d2_1 x19 x18 x17 x16 x15 x14 x13 x12 x11 x10 x9 x8 x7 w_
      rintro ⟨h0_, h1_, h2_, h3_, h4_, h5_, h6_, h7_, h8_, h9_, h10_, h11_, h12_, hI⟩
      obtain rfl := h0_ d0_0
      obtain rfl := h2_ d2_1
      refine r_lss ?_; rw [decide_eq_false (show ¬ (j : Int) < (l.length : Int) by omega)]
      exact ⟨h0_, h1_, h2_, fun _ => rfl, h4_, h5_, h6_, h7_, h8_, h9_, h10_, h11_, h12_, hI⟩
    · intro D hD_ d3_0 x19 x18 x17 x16 x15 x14 x13 x12 x11 x10 x9 x8 x7 w_
      rintro ⟨h0_, h1_, h2_, h3_, h4_, h5_, h6_, h7_, h8_, h9_, h10_, h11_, h12_, hI⟩
      obtain rfl := h3_ d3_0
      exact ⟨h0_, h1_, h2_, h3_, fun _ => rfl, h5_, h6_, h7_, h8_, h9_, h10_, h11_, h12_, hI⟩
    · intro D hD_ d4_0 x19 x18 x17 x16 x15 x14 x13 x12 x11 x10 x9 x8 x7 w_
      rintro ⟨h0_, h1_, h2_, h3_, h4_, h5_, h6_, h7_, h8_, h9_, h10_, h11_, h12_, hI⟩
      obtain rfl := h4_ d4_0
      repeat (first | refine guard_true ?_ | refine guard_ne (by decide) ?_ | refine guard_undef ?_ | refine r_pickT ?_ | refine r_pickF ?_)
      exact ⟨h0_, h1_, h2_, h3_, h4_, fun _ => rfl, h6_, h7_, h8_, h9_, h10_, h11_, h12_, hI⟩
    · intro D hD_ d4_0 x19 x18 x17 x16 x15 x14 x13 x12 x11 x10 x9 x8 x7 w_
      rintro ⟨h0_, h1_, h2_, h3_, h4_, h5_, h6_, h7_, h8_, h9_, h10_, h11_, h12_, hI⟩
      obtain rfl := h4_ d4_0
      repeat (first | refine guard_true ?_ | refine guard_ne (by decide) ?_ | refine guard_undef ?_ | refine r_pickT ?_ | refine r_pickF ?_)
      exact ⟨h0_, h1_, h2_, h3_, h4_, h5_, fun _ => rfl, h7_, h8_, h9_, h10_, h11_, h12_, hI⟩
    · intro D hD_ d5_0 d6_1 d4_2 x19 x18 x17 x16 x15 x14 x13 x12 x11 x10 x9 x8 x7 w_
      rintro ⟨h0_, h1_, h2_, h3_, h4_, h5_, h6_, h7_, h8_, h9_, h10_, h11_, h12_, hI⟩
      obtain rfl := h5_ d5_0
      obtain rfl := h6_ d6_1
      obtain rfl := h4_ d4_2
      repeat (first | refine guard_true ?_ | refine guard_ne (by decide) ?_ | refine guard_undef ?_ | refine r_pickT ?_ | refine r_pickF ?_)
      exact ⟨h0_, h1_, h2_, h3_, h4_, h5_, h6_, fun _ => rfl, h8_, h9_, h10_, h11_, h12_, hI⟩
    · intro D hD_ d7_0 d4_1 x19 x18 x17 x16 x15 x14 x13 x12 x11 x10 x9 x8 x7 w_
      rintro ⟨h0_, h1_, h2_, h3_, h4_, h5_, h6_, h7_, h8_, h9_, h10_, h11_, h12_, hI⟩
      obtain rfl := h7_ d7_0
      obtain rfl := h4_ d4_1
      repeat (first | refine guard_true ?_ | refine guard_ne (by decide) ?_ | refine guard_undef ?_ | refine r_pickT ?_ | refine r_pickF ?_)
      exact ⟨h0_, h1_, h2_, h3_, h4_, h5_, h6_, h7_, fun _ => rfl, h9_, h10_, h11_, h12_, hI⟩
    · intro D hD_ d4_0 x19 x18 x17 x16 x15 x14 x13 x12 x11 x10 x9 x8 x7 w_
      rintro ⟨h0_, h1_, h2_, h3_, h4_, h5_, h6_, h7_, h8_, h9_, h10_, h11_, h12_, hI⟩
      obtain rfl := h4_ d4_0
      repeat (first | refine guard_true ?_ | refine guard_ne (by decide) ?_ | refine guard_undef ?_ | refine r_pickT ?_ | refine r_pickF ?_)
      exact ⟨h0_, h1_, h2_, h3_, h4_, h5_, h6_, h7_, h8_, fun _ => rfl, h10_, h11_, h12_, hI⟩
    · intro D hD_ d8_0 d9_1 d4_2 d4_3 x19 x18 x17 x16 x15 x14 x13 x12 x11 x10 x9 x8 x7 w_
      rintro ⟨h0_, h1_, h2_, h3_, h4_, h5_, h6_, h7_, h8_, h9_, h10_, h11_, h12_, hI⟩
      obtain rfl := h8_ d8_0
      obtain rfl := h9_ d9_1
      obtain rfl := h4_ d4_2
      repeat (first | refine guard_true ?_ | refine guard_ne (by decide) ?_ | refine guard_undef ?_ | refine r_pickT ?_ | refine r_pickF ?_)
      exact ⟨h0_, h1_, h2_, h3_, h4_, h5_, h6_, h7_, h8_, h9_, fun _ => rfl, h11_, h12_, hI⟩
    · intro D hD_ d10_0 d4_1 x19 x18 x17 x16 x15 x14 x13 x12 x11 x10 x9 x8 x7 w_
      rintro ⟨h0_, h1_, h2_, h3_, h4_, h5_, h6_, h7_, h8_, h9_, h10_, h11_, h12_, hI⟩
      obtain rfl := h10_ d10_0
      obtain rfl := h4_ d4_1
      repeat (first | refine guard_true ?_ | refine guard_ne (by decide) ?_ | refine guard_undef ?_ | refine r_pickT ?_ | refine r_pickF ?_)
      exact ⟨h0_, h1_, h2_, h3_, h4_, h5_, h6_, h7_, h8_, h9_, h10_, fun _ => rfl, h12_, hI⟩
    · intro D hD_ d4_0 d11_1 x19 x18 x17 x16 x15 x14 x13 x12 x11 x10 x9 x8 x7 w_
      rintro ⟨h0_, h1_, h2_, h3_, h4_, h5_, h6_, h7_, h8_, h9_, h10_, h11_, h12_, hI⟩
      obtain rfl := h4_ d4_0
      obtain rfl := h11_ d11_1
      repeat (first | refine guard_true ?_ | refine guard_ne (by decide) ?_ | refine guard_undef ?_ | refine r_pickT ?_ | refine r_pickF ?_)
      exact ⟨h0_, h1_, h2_, h3_, h4_, h5_, h6_, h7_, h8_, h9_, h10_, h11_, fun _ => rfl, hI⟩
    intro D d12_ d11_ d10_ d9_ d8_ d7_ d6_ d5_ d4_ d3_ d2_ d1_ d0_ x19 x18 x17 x16 x15 x14 x13 x12 x11 x10 x9 x8 x7 w_
    rintro ⟨h0_, h1_, h2_, h3_, h4_, h5_, h6_, h7_, h8_, h9_, h10_, h11_, h12_, hI⟩
    obtain rfl := h12_ d12_
    obtain rfl := h11_ d11_
    obtain rfl := h10_ d10_
    obtain rfl := h9_ d9_
    obtain rfl := h8_ d8_
    obtain rfl := h7_ d7_
    obtain rfl := h6_ d6_
    obtain rfl := h5_ d5_
    obtain rfl := h4_ d4_
    obtain rfl := h3_ d3_
    obtain rfl := h2_ d2_
    obtain rfl := h1_ d1_
    obtain rfl := h0_ d0_
    clear h0_ h1_ h2_ h3_ h4_ h5_ h6_ h7_ h8_ h9_ h10_ h11_ h12_
    refine condV (fun hb => by cases hb) (fun _ => ?_)
    refine ⟨fun D x33 x32 x31 x30 x29 x28 x27 x26 x25 x24 x23 x22 w_ => (D 0 = true → x22 = .int .i64 j) ∧ (D 1 = true → x23 = .slice a l.length m) ∧ (D 2 = true → x24 = .int .i64 l.length) ∧ (D 3 = true → x25 = .bool false) ∧ (D 4 = true → x26 = .bool false) ∧ (D 5 = true → x27 = undef) ∧ (D 6 = true → x28 = undef) ∧ (D 7 = true → x29 = undef) ∧ (D 8 = true → x30 = undef) ∧ (D 9 = true → x31 = undef) ∧ (D 10 = true → x32 = undef) ∧ (D 11 = true → x33 = .bool false) ∧ Inv w [] [.blk b3 (.cells cs.toArray t_iTerm)] S w_, ⟨fun h => Bool.noConfusion h, fun h => Bool.noConfusion h, fun h => Bool.noConfusion h, fun h => Bool.noConfusion h, fun h => Bool.noConfusion h, fun h => Bool.noConfusion h, fun h => Bool.noConfusion h, fun h => Bool.noConfusion h, fun h => Bool.noConfusion h, fun h => Bool.noConfusion h, fun h => Bool.noConfusion h, fun h => Bool.noConfusion h, hI.draw⟩, ⟨?_, ?_, ?_, ?_, ?_, ?_, ?_, ?_, ?_, ?_, ?_, ?_, trivial⟩, ?_⟩
    · intro D hD_  x33 x32 x31 x30 x29 x28 x27 x26 x25 x24 x23 x22 w_
      rintro ⟨h0_, h1_, h2_, h3_, h4_, h5_, h6_, h7_, h8_, h9_, h10_, h11_, hI⟩
      exact ⟨fun _ => rfl, h1_, h2_, h3_, h4_, h5_, h6_, h7_, h8_, h9_, h10_, h11_, hI⟩
    · intro D hD_  x33 x32 x31 x30 x29 x28 x27 x26 x25 x24 x23 x22 w_
      rintro ⟨h0_, h1_, h2_, h3_, h4_, h5_, h6_, h7_, h8_, h9_, h10_, h11_, hI⟩
      exact ⟨h0_, fun _ => rfl, h2_, h3_, h4_, h5_, h6_, h7_, h8_, h9_, h10_, h11_, hI⟩
    · intro D hD_ d1_0 x33 x32 x31 x30 x29 x28 x27 x26 x25 x24 x23 x22 w_
      rintro ⟨h0_, h1_, h2_, h3_, h4_, h5_, h6_, h7_, h8_, h9_, h10_, h11_, hI⟩
      obtain rfl := h1_ d1_0
      refine r_len sl_SiTerm ?_
      exact ⟨h0_, h1_, fun _ => rfl, h3_, h4_, h5_, h6_, h7_, h8_, h9_, h10_, h11_, hI⟩
    · intro D hD_ d0_0 d2_1 x33 x32 x31 x30 x29 x28 x27 x26 x25 x24 x23 x22 w_
      rintro ⟨h0_, h1_, h2_, h3_, h4_, h5_, h6_, h7_, h8_, h9_, h10_, h11_, hI⟩
      obtain rfl := h0_ d0_0
      obtain rfl := h2_ d2_1
      refine r_lss ?_; rw [decide_eq_false (show ¬ (j : Int) < (l.length : Int) by omega)]
      exact ⟨h0_, h1_, h2_, fun _ => rfl, h4_, h5_, h6_, h7_, h8_, h9_, h10_, h11_, hI⟩
    · intro D hD_ d3_0 x33 x32 x31 x30 x29 x28 x27 x26 x25 x24 x23 x22 w_
      rintro ⟨h0_, h1_, h2_, h3_, h4_, h5_, h6_, h7_, h8_, h9_, h10_, h11_, hI⟩
      obtain rfl := h3_ d3_0
      exact ⟨h0_, h1_, h2_, h3_, fun _ => rfl, h5_, h6_, h7_, h8_, h9_, h10_, h11_, hI⟩
    · intro D hD_ d4_0 x33 x32 x31 x30 x29 x28 x27 x26 x25 x24 x23 x22 w_
      rintro ⟨h0_, h1_, h2_, h3_, h4_, h5_, h6_, h7_, h8_, h9_, h10_, h11_, hI⟩
      obtain rfl := h4_ d4_0
      repeat (first | refine guard_true ?_ | refine guard_ne (by decide) ?_ | refine guard_undef ?_ | refine r_pickT ?_ | refine r_pickF ?_)
      exact ⟨h0_, h1_, h2_, h3_, h4_, fun _ => rfl, h6_, h7_, h8_, h9_, h10_, h11_, hI⟩
    · intro D hD_ d4_0 x33 x32 x31 x30 x29 x28 x27 x26 x25 x24 x23 x22 w_
      rintro ⟨h0_, h1_, h2_, h3_, h4_, h5_, h6_, h7_, h8_, h9_, h10_, h11_, hI⟩
      obtain rfl := h4_ d4_0
      repeat (first | refine guard_true ?_ | refine guard_ne (by decide) ?_ | refine guard_undef ?_ | refine r_pickT ?_ | refine r_pickF ?_)
      exact ⟨h0_, h1_, h2_, h3_, h4_, h5_, fun _ => rfl, h7_, h8_, h9_, h10_, h11_, hI⟩
    · intro D hD_ d5_0 d6_1 d4_2 x33 x32 x31 x30 x29 x28 x27 x26 x25 x24 x23 x22 w_
      rintro ⟨h0_, h1_, h2_, h3_, h4_, h5_, h6_, h7_, h8_, h9_, h10_, h11_, hI⟩
      obtain rfl := h5_ d5_0
      obtain rfl := h6_ d6_1
      obtain rfl := h4_ d4_2
      repeat (first | refine guard_true ?_ | refine guard_ne (by decide) ?_ | refine guard_undef ?_ | refine r_pickT ?_ | refine r_pickF ?_)
      exact ⟨h0_, h1_, h2_, h3_, h4_, h5_, h6_, fun _ => rfl, h8_, h9_, h10_, h11_, hI⟩
    · intro D hD_ d7_0 d4_1 x33 x32 x31 x30 x29 x28 x27 x26 x25 x24 x23 x22 w_
      rintro ⟨h0_, h1_, h2_, h3_, h4_, h5_, h6_, h7_, h8_, h9_, h10_, h11_, hI⟩
      obtain rfl := h7_ d7_0
      obtain rfl := h4_ d4_1
      repeat (first | refine guard_true ?_ | refine guard_ne (by decide) ?_ | refine guard_undef ?_ | refine r_pickT ?_ | refine r_pickF ?_)
      exact ⟨h0_, h1_, h2_, h3_, h4_, h5_, h6_, h7_, fun _ => rfl, h9_, h10_, h11_, hI⟩
    · intro D hD_ d4_0 x33 x32 x31 x30 x29 x28 x27 x26 x25 x24 x23 x22 w_
      rintro ⟨h0_, h1_, h2_, h3_, h4_, h5_, h6_, h7_, h8_, h9_, h10_, h11_, hI⟩
      obtain rfl := h4_ d4_0
      repeat (first | refine guard_true ?_ | refine guard_ne (by decide) ?_ | refine guard_undef ?_ | refine r_pickT ?_ | refine r_pickF ?_)
      exact ⟨h0_, h1_, h2_, h3_, h4_, h5_, h6_, h7_, h8_, fun _ => rfl, h10_, h11_, hI⟩
    · intro D hD_ d8_0 d9_1 d4_2 d4_3 x33 x32 x31 x30 x29 x28 x27 x26 x25 x24 x23 x22 w_
      rintro ⟨h0_, h1_, h2_, h3_, h4_, h5_, h6_, h7_, h8_, h9_, h10_, h11_, hI⟩
      obtain rfl := h8_ d8_0
      obtain rfl := h9_ d9_1
      obtain rfl := h4_ d4_2
      repeat (first | refine guard_true ?_ | refine guard_ne (by decide) ?_ | refine guard_undef ?_ | refine r_pickT ?_ | refine r_pickF ?_)
      exact ⟨h0_, h1_, h2_, h3_, h4_, h5_, h6_, h7_, h8_, h9_, fun _ => rfl, h11_, hI⟩
    · intro D hD_ d4_0 d10_1 x33 x32 x31 x30 x29 x28 x27 x26 x25 x24 x23 x22 w_
      rintro ⟨h0_, h1_, h2_, h3_, h4_, h5_, h6_, h7_, h8_, h9_, h10_, h11_, hI⟩
      obtain rfl := h4_ d4_0
      obtain rfl := h10_ d10_1
      repeat (first | refine guard_true ?_ | refine guard_ne (by decide) ?_ | refine guard_undef ?_ | refine r_pickT ?_ | refine r_pickF ?_)
      exact ⟨h0_, h1_, h2_, h3_, h4_, h5_, h6_, h7_, h8_, h9_, h10_, fun _ => rfl, hI⟩
    intro D d11_ d10_ d9_ d8_ d7_ d6_ d5_ d4_ d3_ d2_ d1_ d0_ x33 x32 x31 x30 x29 x28 x27 x26 x25 x24 x23 x22 w_
    rintro ⟨h0_, h1_, h2_, h3_, h4_, h5_, h6_, h7_, h8_, h9_, h10_, h11_, hI⟩
    obtain rfl := h11_ d11_
    obtain rfl := h10_ d10_
    obtain rfl := h9_ d9_
    obtain rfl := h8_ d8_
    obtain rfl := h7_ d7_
    obtain rfl := h6_ d6_
    obtain rfl := h5_ d5_
    obtain rfl := h4_ d4_
    obtain rfl := h3_ d3_
    obtain rfl := h2_ d2_
    obtain rfl := h1_ d1_
    obtain rfl := h0_ d0_
    clear h0_ h1_ h2_ h3_ h4_ h5_ h6_ h7_ h8_ h9_ h10_ h11_
    refine condV (fun hb => by cases hb) (fun _ => ?_)
    rw [← hrel]
    refine put_tail j hI h hcs hj hn fun r S' w' hE hr hI => ⟨_, _, _, rfl, hI, hE, rfl, ?_⟩
    rw [List.drop_eq_nil_of_le (by omega)] at hr
    exact hr
end

end Go.Proofs.Ytgdibnmabnimaaa

/- spec.l16Has, l16Match, l16Full. -/
namespace Go.Proofs.Ytgdibnmabnimaaa
open Go Go.RowKit
def hasT (l : List T) (t : T) : Bool := l.any fun x => eqT x t
def zeroT : T := .mk 0 0 ⟨#[]⟩ []
def getK (st : Known) (n : Int) : T := match st[n.toNat]? with
  | some (some t) => t
  | _ => zeroT
def fullK (st : Known) (x : T) : T := if x.kind = 1 then getK st x.n else x
def fullS (g : T) (st : Known) : T := .mk g.kind 0 g.name (g.kids.map (fullK st))
def stW (st : Known) : Prop := ∀ t, some t ∈ st → wT t ≤ 1048576
theorem getK_mem (st : Known) (n : Int) : getK st n = zeroT ∨ some (getK st n) ∈ st := by
  rw [getK]
  split
  · rename_i t h
    exact .inr (List.mem_of_getElem? h)
  · exact .inl rfl
theorem zeroT_w : wT zeroT ≤ 1048576 := by
  have : wT zeroT = 0 := rfl
  omega
theorem stW_full {st : Known} (h : stW st) {ks : List T} {j : Nat} (hj : j < ks.length) (hw : wL ks ≤ 1048576) : wT (fullK st ks[j]) ≤ 1048576 := by
  rw [fullK]
  split
  · rcases getK_mem st ks[j].n with e | e
    · rw [e]; exact zeroT_w
    · exact h _ e
  · have := wL_mem (List.getElem_mem hj)
    omega
theorem fullL_take (st : Known) (ks : List T) (j : Nat) (h : j < ks.length) : (ks.take (j + 1)).map (fullK st) = (ks.take j).map (fullK st) ++ [fullK st ks[j]] := by
  rw [List.take_succ_eq_append_getElem h, List.map_append]; rfl
theorem RdT.zero (S : Store) : RdT S noCells zeroT := RdT.iff.2 ⟨_, rfl, by simp [inI, T.kind, zeroT], by simp [inI, T.n, zeroT], by rw [zeroT, T.name]; decide +kernel, none, 0, rfl, Nat.le_refl _, Nat.zero_le _, .inl rfl⟩
theorem KnownC.get {S : Store} {kc : Array Value} {st : Known} (h : KnownC S kc st) (hst : st.length = 26) {j : Nat} (hj : j < 26) : RdT S (cellsAt kc (j * 4) 4) (getK st j) := by
  obtain ⟨h1, h2⟩ := h.2 j (by omega)
  rw [getK, Int.toNat_natCast, List.getElem?_eq_getElem (show j < st.length by omega)]
  cases e : st[j] with
  | none =>
    rw [h1 e]
    exact RdT.zero S
  | some t => exact h2 t e
/- what is known, as a row of optional terms -/
def KRel (S : Store) (cs : List Value) (o : Option T) : Prop := cs.length = 4 ∧ (o = none → cs = noCells) ∧ ∀ t, o = some t → RdT S cs t
theorem KRel.one {S : Store} {cs : List Value} {o : Option T} (h : KRel S cs o) : ∀ u ∈ cs, u.oneCell' = true := by
  cases o with
  | none => rw [h.2.1 rfl]; simp [noCells, Value.oneCell']
  | some t => exact (h.2.2 t rfl).one
theorem KnownC.rd {S : Store} {kb kp : Nat} {kc : Array Value} {st : Known} {E : TypeId} (hS : S kb = some (.cells kc E)) (h : KnownC S kc st) (hst : st.length = 26) (hkp : 26 ≤ kp) (hkm : kp ≤ maxLen) : RdSl S 4 (KRel S) (kvn kb kp) st := by
  refine ⟨some ⟨kb, 0, none⟩, kp, by rw [hst], by omega, hkm, .inr ⟨kb, 0, kc, E, (0, 0), rfl, hS, fun i hi => ?_⟩⟩
  obtain ⟨h1, h2⟩ := h.2 i hi
  rw [Nat.zero_add]
  refine ⟨?_, h1, h2⟩
  have := h.1
  rw [cellsAt, List.length_take, List.length_drop, Array.length_toList]
  omega
theorem KnownC.of_rows {S : Store} {cur : Array Value} {css : List (List Value)} {st : Known} (h : Rows 4 (KRel S) css st) (hst : st.length = 26) {cap : Nat} (hcap : 26 ≤ cap) (hs : cur.size = cap * 4) (ht : cur.toList.take (css.length * 4) = css.flatten) : KnownC S cur st := by
  have hc := h.hc
  refine ⟨by omega, fun i hi => ?_⟩
  have hi' : i < css.length := by omega
  have hfl := flatten_at 4 css i h.hk hi'
  have e : cellsAt cur (i * 4) 4 = css[i] := by
    rw [← hfl, ← ht, List.drop_take, List.take_take, Nat.min_eq_left (by omega)]
    rfl
  have hr := h.hR i hi hi'
  rw [← e] at hr
  exact ⟨hr.2.1, hr.2.2⟩
section
attribute [local irreducible] Run CondV GuardV LoadV
theorem l16Has_calls {l : List T} {t : T} {S : Store} {v : Value} {cs : List Value} (h : RdSl S 4 (RdT S) v l) (hcs : RdT S cs t) : Pure Try.prog n_s_l16Has [v, .agg cs.toArray] S (.bool (hasT l t)) := by
  intro w hI
  have hlc := hcs.length
  have hlen := h.le
  simp only [maxLen] at hlen
  refine calls_s_l16Has ?_
  unfold sh_s_l16Has
  refine r_box hI fun b3 w' hI => ?_
  have hI : Inv w [] [.blk b3 (.cells cs.toArray t_iTerm)] S w' := hI
  refine ⟨fun i w' => ∃ j : Nat, j ≤ l.length ∧ i = .int .i64 j ∧ hasT (l.drop j) t = hasT l t ∧ Inv w [] [.blk b3 (.cells cs.toArray t_iTerm)] S w',
    fun i _ => l.length - (intOf i).toNat, ⟨0, Nat.zero_le _, rfl, rfl, hI⟩, ?_⟩
  intro t5 _ _ _ _ _ _ _ _ _ _ _ _ _ w'
  rintro ⟨j, hj, rfl, hrel, hI⟩
  refine r_lenSl h sl_SiTerm ?_
  refine r_lss ?_
  refine condP (fun hji => ?_) (fun hji => ?_)
  · have hj' : j < l.length := by omega
    obtain ⟨b, o, cap, c, E, fz, rfl, hS, hR⟩ := h.at_ hj'
    have hstep : hasT (l.drop j) t = (eqT l[j] t || hasT (l.drop (j + 1)) t) := by
      rw [hasT, List.drop_eq_getElem_cons hj', List.any_cons]; rfl
    refine ⟨fun D x17 x16 x15 x14 x13 x12 w_ => (D 0 = true → x12 = .slice (some ⟨b, o, none⟩) l.length cap) ∧ (D 1 = true → x13 = .int .i64 j) ∧ (D 2 = true → x14 = .pointer (some ⟨b, o + j * 4, none⟩)) ∧ (D 3 = true → x15 = .agg (cellsAt c (o + j * 4) 4).toArray) ∧ (D 4 = true → x16 = .agg cs.toArray) ∧ (D 5 = true → x17 = .bool (eqT l[j] t)) ∧ Inv w [] [.blk b3 (.cells cs.toArray t_iTerm)] S w_, ⟨fun h => Bool.noConfusion h, fun h => Bool.noConfusion h, fun h => Bool.noConfusion h, fun h => Bool.noConfusion h, fun h => Bool.noConfusion h, fun h => Bool.noConfusion h, hI.draw⟩, ⟨?_, ?_, ?_, ?_, ?_, ?_, trivial⟩, ?_⟩
    · intro D hD_  x17 x16 x15 x14 x13 x12 w_
      rintro ⟨h0_, h1_, h2_, h3_, h4_, h5_, hI⟩
      exact ⟨fun _ => rfl, h1_, h2_, h3_, h4_, h5_, hI⟩
    · intro D hD_  x17 x16 x15 x14 x13 x12 w_
      rintro ⟨h0_, h1_, h2_, h3_, h4_, h5_, hI⟩
      exact ⟨h0_, fun _ => rfl, h2_, h3_, h4_, h5_, hI⟩
    · intro D hD_ d0_0 d1_1 x17 x16 x15 x14 x13 x12 w_
      rintro ⟨h0_, h1_, h2_, h3_, h4_, h5_, hI⟩
      obtain rfl := h0_ d0_0
      obtain rfl := h1_ d1_1
      refine r_indexAddr sl_SiTerm hj' ?_
      exact ⟨h0_, h1_, fun _ => rfl, h3_, h4_, h5_, hI⟩
    · intro D hD_ d2_0 x17 x16 x15 x14 x13 x12 w_
      rintro ⟨h0_, h1_, h2_, h3_, h4_, h5_, hI⟩
      obtain rfl := h2_ d2_0
      refine r_loadA ag_iTerm hR.length (fun j v hj => by rw [hI.cellS hS]; exact cellsAt_get rfl j v hj) ?_
      exact ⟨h0_, h1_, h2_, fun _ => rfl, h4_, h5_, hI⟩
    · intro D hD_  x17 x16 x15 x14 x13 x12 w_
      rintro ⟨h0_, h1_, h2_, h3_, h4_, h5_, hI⟩
      refine r_loadW hI 0 ag_iTerm rfl (by simpa using hlc) ?_
      exact ⟨h0_, h1_, h2_, h3_, fun _ => rfl, h5_, hI⟩
    · intro D hD_ d3_0 d4_1 x17 x16 x15 x14 x13 x12 w_
      rintro ⟨h0_, h1_, h2_, h3_, h4_, h5_, hI⟩
      obtain rfl := h3_ d3_0
      obtain rfl := h4_ d4_1
      refine Run.callPure fn_s_TermSame nm_s_TermSame hI (s_TermSame_calls _ _ S _ _ hR hcs) fun w_ hI => ?_
      exact ⟨h0_, h1_, h2_, h3_, h4_, fun _ => rfl, hI⟩
    intro D d5_ d4_ d3_ d2_ d1_ d0_ x17 x16 x15 x14 x13 x12 w_
    rintro ⟨h0_, h1_, h2_, h3_, h4_, h5_, hI⟩
    obtain rfl := h5_ d5_
    obtain rfl := h4_ d4_
    obtain rfl := h3_ d3_
    obtain rfl := h2_ d2_
    obtain rfl := h1_ d1_
    obtain rfl := h0_ d0_
    clear h0_ h1_ h2_ h3_ h4_ h5_
    refine condV (fun he => done hI ?_) (fun he => ?_)
    · rw [← hrel, hstep, he]; rfl
    · refine r_add (by omega) ?_
      exact ⟨⟨j + 1, hj', rfl, by rw [← hrel, hstep, he]; rfl, hI⟩, by simp [intOf]; omega⟩
  · refine done hI ?_
    rw [← hrel, List.drop_eq_nil_of_le (by omega)]; rfl
abbrev PostM (r : Bool × Known) : Value → List Item → Store → Prop := fun v I' S' => I' = [] ∧ ∃ kb kp kc, v = .tuple #[kvn kb kp, .bool r.1] ∧ 26 ≤ kp ∧ kp ≤ maxLen ∧ S' kb = some (.cells kc t_iTerm) ∧ KnownC S' kc r.2
theorem KnownC.mono {S S' : Store} {kc : Array Value} {st : Known} (h : KnownC S kc st) (hs : Sle S S') : KnownC S' kc st :=
  ⟨h.1, fun i hi => ⟨(h.2 i hi).1, fun t ht => ((h.2 i hi).2 t ht).mono hs⟩⟩
theorem l16Match_calls {g f : T} {S : Store} {cs ds : List Value} {kb kp : Nat} {kc : Array Value} {st : Known} (hg : RdT S cs g) (hf : RdT S ds f) (hv : okV g) (hk : okK f) (hst : stOk st) (hkp : 26 ≤ kp) (hkm : kp ≤ maxLen)
    (hS : S kb = some (.cells kc t_iTerm)) (hkc : KnownC S kc st) : Tri Try.prog n_s_l16Match [.agg cs.toArray, .agg ds.toArray, kvn kb kp] [] S (PostM (matchT g f st)) := by
  intro w hI
  have hlg := hg.length
  have hlf := hf.length
  refine calls_s_l16Match ?_
  unfold sh_s_l16Match
  refine r_box hI fun b3 w' hI => ?_
  refine r_box hI fun b4 w' hI => ?_
  refine r_slice0 hI mk_SiTerm fun v0 w' hI => ?_
  have hI : Inv w [] [.blk b3 (.cells cs.toArray t_iTerm), .blk b4 (.cells ds.toArray t_iTerm), rowG v0 t_iTerm 4 []] S w' := hI
  have hrd := hkc.rd hS hst.1 hkp hkm
  refine r_appendRd hI 2 (css := []) mk_SiTerm (by omega) rfl hrd (fun _ _ h => h.1) (fun _ _ => KRel.one) (by simp [hst.1]) (by omega) fun v1 w' css hR hI => ?_
  have hI : Inv w [] ([.blk b3 (.cells cs.toArray t_iTerm), .blk b4 (.cells ds.toArray t_iTerm)] ++ [rowG v1 t_iTerm 4 css]) S w' := by simpa using hI
  have hcl : css.length = 26 := by rw [hR.hc]; exact hst.1
  obtain ⟨_, ho⟩ := hI.openRow
  rcases ho with ⟨_, h0⟩ | ⟨nb, cap, cur, rfl, hnc, hcm, hcs, ht, hI⟩
  · omega
  rw [hcl] at hnc
  have hkc' := KnownC.of_rows hR hst.1 hnc hcs ht
  rw [hcl]
  refine r_loadW hI 0 ag_iTerm rfl (by simpa using hlg) ?_
  refine r_loadW hI 1 ag_iTerm rfl (by simpa using hlf) ?_
  refine Run.call (A := [_, _]) fn_s_l3Match nm_s_l3Match hI (l3Match_calls cap _ _ S _ _ nb cur st hg hf hv hk hst hkc') fun v' I' S' w' => ?_
  rintro ⟨rfl, rfl, kc2, rfl, hk2⟩ _ hI
  obtain ⟨S', hI, hE, hins⟩ := Inv.pubExt (A := [.blk b3 (.cells cs.toArray t_iTerm), .blk b4 (.cells ds.toArray t_iTerm)]) (L := [(nb, .cells kc2 t_iTerm)]) hI
  exact ⟨_, _, _, rfl, hI.pick [false, false], hE, rfl, nb, cap, kc2, rfl, hnc, hcm, hins _ (List.mem_singleton.2 rfl), hk2.mono hE.1⟩
theorem l16Full_calls {g : T} {S : Store} {cs : List Value} {kb kp : Nat} {kc : Array Value} {st : Known} (hg : RdT S cs g) (hv : okV g) (hw : wT g ≤ 1048576) (hst : stOk st) (hsw : stW st)
    (hS : S kb = some (.cells kc t_iTerm)) (hkc : KnownC S kc st) : Tri Try.prog n_s_l16Full [.agg cs.toArray, kvn kb kp] [] S (PostT S (fullS g st)) := by
  intro w hI
  obtain ⟨kv, rfl, h1, h2, hs, hks⟩ := RdT.iff.1 hg
  obtain ⟨k, n, s, ks⟩ := g
  simp only [T.name, T.kids, T.kind, T.n] at h1 h2 hs hks ⊢
  simp only [wT] at hw
  rw [okV] at hv
  have hvk := hv.2
  refine calls_s_l16Full ?_
  unfold sh_s_l16Full
  refine r_box hI fun b2 w' hI => ?_
  obtain ⟨hI, hle⟩ := Inv.publishLast (L := []) hI
  have hb2 : addS S b2 (.cells (Value.agg #[.int .i64 k, .int .i64 n, .string s, kv]).cells t_iTerm) b2 = some (.cells #[.int .i64 k, .int .i64 n, .string s, kv] t_iTerm) := by simp [addS, Value.cells]
  generalize addS S b2 (.cells (Value.agg #[.int .i64 k, .int .i64 n, .string s, kv]).cells t_iTerm) = S1 at hI hle hb2
  have hks1 := hks.monoT hle
  have hS1 := hle _ _ hS
  have hkc1 := hkc.mono hle
  refine r_alloc hI zo_iTerm fun b4 w' hI => ?_
  refine r_field fo_iTerm_0 ?_
  refine r_load sc_int (by rw [hI.cellS hb2]; rfl) ?_
  refine r_field fo_iTerm_2 ?_
  refine r_load sc_string (by rw [hI.cellS hb2]; rfl) ?_
  have hb : ∀ {K : Value → World → Prop} {w' : World}, K (.agg #[.int .i64 k, .int .i64 0, .string s, .slice none 0 0]) w' → Run Try.prog (sBuild t_iTerm [(0, .int .i64 k), (2, .string s)]) w' K := by
    intro K w' hk
    refine Run.of (v := .agg #[.int .i64 k, .int .i64 0, .string s, .slice none 0 0]) (w' := w') ?_ hk
    unfold sBuild
    rw [Sem.run_bind, run_build w' t_iTerm _ #[.int .i64 k, .int .i64 0, .string s, .slice none 0 0] (by kernel_rfl), Result.andThen_ok]
    rfl
  refine hb ?_
  refine r_alloc hI zo_iTerm fun b5 w' hI => ?_
  refine r_storeW hI 1 rfl ag_iTerm rfl rfl (by simp [Value.oneCell']) fun w' hI => ?_
  have hI := hI.rowNil t_iTerm 4
  refine ⟨fun i w' => ∃ (j : Nat) (kvc : Value) (Ls : List Heaplet) (css : List (List Value)), j ≤ ks.length ∧ i = .int .i64 j ∧ Grown 4 TrT Ls css ((ks.take j).map (fullK st)) ∧
      Inv w [] (.blk b4 (.cells #[.int .i64 0, .int .i64 0, .string ⟨#[]⟩, .slice none 0 0] t_iTerm) :: .blk b5 (.cells #[.int .i64 k, .int .i64 0, .string s, kvc] t_iTerm) :: rowG kvc t_iTerm 4 css :: blks Ls.flatten) S1 w',
    fun i _ => ks.length - (intOf i).toNat, ⟨0, _, [], [], Nat.zero_le _, rfl, Grown.nil _ _, hI⟩, ?_⟩
  intro t6 _ _ _ _ _ _ _ _ _ _ _ _ _ _ _ _ _ _ _ _ _ _ _ _ _ _ _ _ w'
  rintro ⟨j, kvc, Ls, css, hj, rfl, hg', hI⟩
  refine r_field fo_iTerm_3 ?_
  refine r_load sc_SiTerm (by rw [hI.cellS hb2]; rfl) ?_
  refine r_lenSl hks1 sl_SiTerm ?_
  refine r_lss ?_
  refine condP (fun hji => ?_) (fun hji => ?_)
  · have hj' : j < ks.length := by omega
    have hjl : (ks.take j).length = j := by simp; omega
    have hcl := hg'.hc
    rw [List.length_map] at hcl
    have hm := List.getElem_mem hj'
    have hwm := wL_mem hm
    have hvj := okVL_mem hvk _ hm
    refine r_field fo_iTerm_3 ?_
    refine r_load sc_SiTerm (by rw [hI.cellS hb2]; rfl) ?_
    refine r_elem hI hks1 sl_SiTerm ag_iTerm hj' (fun _ _ => RdT.length) fun cs0 hcs0 => ?_
    refine r_alloc hI zo_iTerm fun b7 w' hI => ?_
    have hI := hI.perm (M := .blk b7 _ :: (.blk b4 (.cells #[.int .i64 0, .int .i64 0, .string ⟨#[]⟩, .slice none 0 0] t_iTerm) :: .blk b5 (.cells #[.int .i64 k, .int .i64 0, .string s, kvc] t_iTerm) :: rowG kvc t_iTerm 4 css :: blks Ls.flatten)) (List.perm_append_comm (l₁ := [_]))
    refine r_storeW hI 0 rfl ag_iTerm (by simpa using hcs0.length) rfl (by simpa using hcs0.one) fun w' hI => ?_
    refine ⟨fun w' => ∃ c7, RdT S1 c7 (fullK st ks[j]) ∧ Inv w [] (.blk b7 (.cells c7.toArray t_iTerm) :: .blk b4 (.cells #[.int .i64 0, .int .i64 0, .string ⟨#[]⟩, .slice none 0 0] t_iTerm) :: .blk b5 (.cells #[.int .i64 k, .int .i64 0, .string s, kvc] t_iTerm) :: rowG kvc t_iTerm 4 css :: blks Ls.flatten) S1 w', ?_, ?_⟩
    · obtain ⟨x0, hc0, _⟩ := RdT.iff.1 hcs0
      refine r_fieldL hI 0 (u := .int .i64 ks[j].kind) rfl fo_iTerm_0 sc_int (by rw [hc0]; rfl) ?_
      refine r_eql ?_
      refine condP (fun hk1 => ?_) (fun hk1 => ?_)
      · have hvn : 0 ≤ ks[j].n ∧ ks[j].n ≤ 25 := by
          have hx := hvj
          generalize ks[j] = x at hx hk1
          cases x
          rw [okV] at hx
          exact hx.1 hk1
        obtain ⟨m, hm'⟩ : ∃ m : Nat, ks[j].n = m := ⟨ks[j].n.toNat, by omega⟩
        have hm26 : m < 26 := by omega
        have hget := hkc1.get hst.1 hm26
        rw [fullK, if_pos hk1, hm']
        refine r_fieldL hI 0 (u := .int .i64 ks[j].n) rfl fo_iTerm_1 sc_int (by rw [hc0]; rfl) ?_
        rw [hm']
        refine r_indexAddr sl_SiTerm hm26 ?_
        refine r_loadA (cs := cellsAt kc (m * 4) 4) ag_iTerm hget.length (fun i v hi => by rw [hI.cellS hS1, Nat.zero_add]; exact cellsAt_get rfl i v hi) ?_
        refine r_storeW hI 0 rfl ag_iTerm (by simpa using hget.length) (by simpa using hcs0.length) (by simpa using hget.one) fun w' hI => ?_
        exact ⟨_, hget, hI⟩
      · rw [fullK, if_neg hk1]
        exact ⟨_, hcs0, hI⟩
    intro _ _ _ _ _ _ _ _ w'
    rintro ⟨c7, hc7, hI⟩
    refine ⟨fun D x39 x38 x37 x36 x35 x34 x33 w_ => (D 0 = true → x33 = .pointer (some ⟨b5, 3, none⟩)) ∧ (D 1 = true → x34 = kvc) ∧ (D 2 = true → x35 = .agg c7.toArray) ∧ (D 3 = true → True) ∧ (D 4 = true → True) ∧ (D 5 = true → True) ∧ (D 6 = true → x39 = .pointer (some ⟨b5, 3, none⟩)) ∧ (D 7 = true → True) ∧ ∃ M cs7 b8, (D 3 = true → x36 = .agg cs7.toArray ∧ TrT M cs7 (fullK st ks[j])) ∧ (D 4 = true → x37 = .slice (some ⟨b8, 0, none⟩) 1 1) ∧ (D 4 = true → D 3 = true) ∧ (D 5 = true → D 4 = true) ∧ (D 7 = true → D 5 = true) ∧ (D 7 = true → D 1 = true) ∧ Inv w [] (cpItems (.blk b7 (.cells c7.toArray t_iTerm)) (.blk b4 (.cells #[.int .i64 0, .int .i64 0, .string ⟨#[]⟩, .slice none 0 0] t_iTerm)) (.blk b5 (.cells #[.int .i64 k, .int .i64 0, .string s, kvc] t_iTerm)) (.blk b5 (.cells #[.int .i64 k, .int .i64 0, .string s, x38] t_iTerm)) (rowG kvc t_iTerm 4 css) (rowG x38 t_iTerm 4 (css ++ [cs7])) (blks Ls.flatten) M (.blk b8 (.cells cs7.toArray t_iTerm)) (D 3) (D 4) (D 5) (D 7)) S1 w_, ⟨fun h => Bool.noConfusion h, fun h => Bool.noConfusion h, fun h => Bool.noConfusion h, fun h => Bool.noConfusion h, fun h => Bool.noConfusion h, fun h => Bool.noConfusion h, fun h => Bool.noConfusion h, fun h => Bool.noConfusion h, ⟨[], [], 0, fun h => Bool.noConfusion h, fun h => Bool.noConfusion h, fun h => Bool.noConfusion h, fun h => Bool.noConfusion h, fun h => Bool.noConfusion h, fun h => Bool.noConfusion h, by simpa [cpItems, blks] using hI.draw⟩⟩, ⟨?_, ?_, ?_, ?_, ?_, ?_, ?_, ?_, trivial⟩, ?_⟩
    · intro D hD_  x39 x38 x37 x36 x35 x34 x33 w_
      rintro ⟨h0_, h1_, h2_, h3_, h4_, h5_, h6_, h7_, ⟨M, cs7, b8, e7, e8, k8, k9, k11, k1, hI⟩⟩
      refine r_field fo_iTerm_3 ?_
      exact ⟨fun _ => rfl, h1_, h2_, h3_, h4_, h5_, h6_, h7_, ⟨M, cs7, b8, e7, e8, k8, k9, k11, k1, hI⟩⟩
    · intro D hD_ d0_0 x39 x38 x37 x36 x35 x34 x33 w_
      rintro ⟨h0_, h1_, h2_, h3_, h4_, h5_, h6_, h7_, ⟨M, cs7, b8, e7, e8, k8, k9, k11, k1, hI⟩⟩
      obtain rfl := h0_ d0_0
      have f11 : D 7 = false := Bool.eq_false_iff.2 fun h => by rw [k1 h] at hD_; cases hD_
      refine r_loadL (b := b5) hI 2 (c := (#[.int .i64 k, .int .i64 0, .string s, kvc])) sc_SiTerm (by rw [f11]; rfl) rfl ?_
      have k1 := fun (_ : setD D 1 7 = true) => (rfl : setD D 1 1 = true)
      exact ⟨h0_, fun _ => rfl, h2_, h3_, h4_, h5_, h6_, h7_, ⟨M, cs7, b8, e7, e8, k8, k9, k11, k1, hI⟩⟩
    · intro D hD_  x39 x38 x37 x36 x35 x34 x33 w_
      rintro ⟨h0_, h1_, h2_, h3_, h4_, h5_, h6_, h7_, ⟨M, cs7, b8, e7, e8, k8, k9, k11, k1, hI⟩⟩
      refine r_loadW hI 0 ag_iTerm rfl (by simpa using hc7.length) ?_
      exact ⟨h0_, h1_, fun _ => rfl, h3_, h4_, h5_, h6_, h7_, ⟨M, cs7, b8, e7, e8, k8, k9, k11, k1, hI⟩⟩
    · intro D hD_ d2_0 x39 x38 x37 x36 x35 x34 x33 w_
      rintro ⟨h0_, h1_, h2_, h3_, h4_, h5_, h6_, h7_, ⟨M, cs7, b8, e7, e8, k8, k9, k11, k1, hI⟩⟩
      obtain rfl := h2_ d2_0
      have f8 : D 4 = false := Bool.eq_false_iff.2 fun h => by rw [k8 h] at hD_; cases hD_
      have f9 : D 5 = false := Bool.eq_false_iff.2 fun h => by rw [k9 h] at f8; cases f8
      have f11 : D 7 = false := Bool.eq_false_iff.2 fun h => by rw [k11 h] at f9; cases f9
      rw [hD_, f8, f9, f11] at hI
      refine Run.call0 fn_s_l1Copy nm_s_l1Copy hI (l1Copy_calls _ S1 _ hc7 (stW_full hsw hj' (by omega))) fun v' I' S1 w_ => ?_
      rintro ⟨rfl, cs7, M, rfl, rfl, hT⟩ _ hI
      have e7 : setD D 3 3 = true → Value.agg cs7.toArray = Value.agg cs7.toArray ∧ TrT M cs7 (fullK st ks[j]) := fun _ => ⟨rfl, hT⟩
      have k8 := fun (_ : setD D 3 4 = true) => (rfl : setD D 3 3 = true)
      have hI : Inv w [] (cpItems (.blk b7 (.cells c7.toArray t_iTerm)) (.blk b4 (.cells #[.int .i64 0, .int .i64 0, .string ⟨#[]⟩, .slice none 0 0] t_iTerm)) (.blk b5 (.cells #[.int .i64 k, .int .i64 0, .string s, kvc] t_iTerm)) (.blk b5 (.cells #[.int .i64 k, .int .i64 0, .string s, x38] t_iTerm)) (rowG kvc t_iTerm 4 css) (rowG x38 t_iTerm 4 (css ++ [cs7])) (blks Ls.flatten) M (.blk b8 (.cells cs7.toArray t_iTerm)) true (D 4) (D 5) (D 7)) S1 w_ := by
        rw [f8, f9, f11]
        simpa [cpItems] using hI
      exact ⟨h0_, h1_, h2_, fun _ => by first | assumption | trivial, h4_, h5_, h6_, h7_, ⟨M, cs7, b8, e7, e8, k8, k9, k11, k1, hI⟩⟩
    · intro D hD_ d3_0 x39 x38 x37 x36 x35 x34 x33 w_
      rintro ⟨h0_, h1_, h2_, h3_, h4_, h5_, h6_, h7_, ⟨M, cs7, b8, e7, e8, k8, k9, k11, k1, hI⟩⟩
      have g3_ := h3_ d3_0
      have f9 : D 5 = false := Bool.eq_false_iff.2 fun h => by rw [k9 h] at hD_; cases hD_
      have f11 : D 7 = false := Bool.eq_false_iff.2 fun h => by rw [k11 h] at f9; cases f9
      obtain ⟨q7, hT⟩ := e7 d3_0
      subst q7
      rw [d3_0, hD_, f9, f11] at hI
      refine r_slice1 hI mk_SiTerm (by simp [Value.cells, hT.length]) (by omega) (by omega) fun b8 w_ hI => ?_
      have e7 : setD D 4 3 = true → Value.agg cs7.toArray = Value.agg cs7.toArray ∧ TrT M cs7 (fullK st ks[j]) := fun _ => ⟨rfl, hT⟩
      have e8 := fun (_ : setD D 4 4 = true) => (rfl : Value.slice (some ⟨b8, 0, none⟩) 1 1 = _)
      have k8 := fun (_ : setD D 4 4 = true) => d3_0
      have k9 := fun (_ : setD D 4 5 = true) => (rfl : setD D 4 4 = true)
      have hI : Inv w [] (cpItems (.blk b7 (.cells c7.toArray t_iTerm)) (.blk b4 (.cells #[.int .i64 0, .int .i64 0, .string ⟨#[]⟩, .slice none 0 0] t_iTerm)) (.blk b5 (.cells #[.int .i64 k, .int .i64 0, .string s, kvc] t_iTerm)) (.blk b5 (.cells #[.int .i64 k, .int .i64 0, .string s, x38] t_iTerm)) (rowG kvc t_iTerm 4 css) (rowG x38 t_iTerm 4 (css ++ [cs7])) (blks Ls.flatten) M (.blk b8 (.cells cs7.toArray t_iTerm)) (D 3) true (D 5) (D 7)) S1 w_ := by
        rw [d3_0, f9, f11]
        simpa [cpItems, Value.cells] using hI
      exact ⟨h0_, h1_, h2_, h3_, fun _ => by first | assumption | trivial, h5_, h6_, h7_, ⟨M, cs7, b8, e7, e8, k8, k9, k11, k1, hI⟩⟩
    · intro D hD_ d1_0 d4_1 d3_2 x39 x38 x37 x36 x35 x34 x33 w_
      rintro ⟨h0_, h1_, h2_, h3_, h4_, h5_, h6_, h7_, ⟨M, cs7, b8, e7, e8, k8, k9, k11, k1, hI⟩⟩
      obtain rfl := h1_ d1_0
      have g4_ := h4_ d4_1
      have f11 : D 7 = false := Bool.eq_false_iff.2 fun h => by rw [k11 h] at hD_; cases hD_
      have q8 := e8 d4_1
      subst q8
      obtain ⟨_, hT⟩ := e7 d3_2
      rw [d3_2, d4_1, hD_, f11] at hI
      have hblk : ((cpItems (.blk b7 (.cells c7.toArray t_iTerm)) (.blk b4 (.cells #[.int .i64 0, .int .i64 0, .string ⟨#[]⟩, .slice none 0 0] t_iTerm)) (.blk b5 (.cells #[.int .i64 k, .int .i64 0, .string s, x34] t_iTerm)) (.blk b5 (.cells #[.int .i64 k, .int .i64 0, .string s, x38] t_iTerm)) (rowG x34 t_iTerm 4 css) (rowG x38 t_iTerm 4 (css ++ [cs7])) (blks Ls.flatten) M (.blk b8 (.cells cs7.toArray t_iTerm)) true true false false))[4 + (blks Ls.flatten).length + (blks M).length]? = some (.blk b8 (.cells cs7.toArray t_iTerm)) := by
        have e4 : 4 + (blks Ls.flatten).length + (blks M).length = ((blks Ls.flatten).length + (blks M).length) + 1 + 1 + 1 + 1 := by omega
        rw [e4]
        simp only [cpItems, List.getElem?_cons_succ]
        rw [List.getElem?_append_right (by omega), Nat.add_sub_cancel_left, List.getElem?_append_right (Nat.le_refl _), Nat.sub_self]; rfl
      refine r_append hI 3 cs7 mk_SiTerm (by omega) rfl (by rw [hT.length]) (m := 1) (o := 0) ?_ hT.one (by omega) (by omega) fun v' w_ hI => ?_
      · intro i u hi
        rw [hI.cellL hblk, Nat.zero_add]
        simpa using hi
      rw [rowG_snoc] at hI
      have k9 := fun (_ : setD D 5 5 = true) => d4_1
      have k11 := fun (_ : setD D 5 7 = true) => (rfl : setD D 5 5 = true)
      have hI : Inv w [] (cpItems (.blk b7 (.cells c7.toArray t_iTerm)) (.blk b4 (.cells #[.int .i64 0, .int .i64 0, .string ⟨#[]⟩, .slice none 0 0] t_iTerm)) (.blk b5 (.cells #[.int .i64 k, .int .i64 0, .string s, x34] t_iTerm)) (.blk b5 (.cells #[.int .i64 k, .int .i64 0, .string s, v'] t_iTerm)) (rowG x34 t_iTerm 4 css) (rowG v' t_iTerm 4 (css ++ [cs7])) (blks Ls.flatten) M (.blk b8 (.cells cs7.toArray t_iTerm)) (D 3) (D 4) true (D 7)) S1 w_ := by
        rw [d3_2, d4_1, f11]
        exact hI
      exact ⟨h0_, h1_, h2_, h3_, h4_, fun _ => by first | assumption | trivial, h6_, h7_, ⟨M, cs7, b8, e7, e8, k8, k9, k11, k1, hI⟩⟩
    · intro D hD_ d0_0 d1_1 d2_2 d3_3 d4_4 d5_5 x39 x38 x37 x36 x35 x34 x33 w_
      rintro ⟨h0_, h1_, h2_, h3_, h4_, h5_, h6_, h7_, ⟨M, cs7, b8, e7, e8, k8, k9, k11, k1, hI⟩⟩
      refine r_field fo_iTerm_3 ?_
      exact ⟨h0_, h1_, h2_, h3_, h4_, h5_, fun _ => rfl, h7_, ⟨M, cs7, b8, e7, e8, k8, k9, k11, k1, hI⟩⟩
    · intro D hD_ d6_0 d5_1 d5_2 d0_3 d1_4 d2_5 d3_6 d4_7 d5_8 x39 x38 x37 x36 x35 x34 x33 w_
      rintro ⟨h0_, h1_, h2_, h3_, h4_, h5_, h6_, h7_, ⟨M, cs7, b8, e7, e8, k8, k9, k11, k1, hI⟩⟩
      obtain rfl := h6_ d6_0
      have g5_ := h5_ d5_1
      rw [d3_6, d4_7, d5_1, hD_] at hI
      obtain ⟨va, vn, vc, hv9⟩ := Inv.rowSlice hI 3 rfl
      refine r_store hI 2 (n := 1) (by rw [hv9]; rfl) (by decide +kernel) rfl (by simp) (by rw [hv9]; simp [Value.cells, Value.oneCell']) fun w_ hI => ?_
      have hcl9 : Value.cells x38 = #[x38] := by rw [hv9]; rfl
      rw [hcl9] at hI
      have k1 := fun (_ : setD D 7 7 = true) => d1_4
      have k11 := fun (_ : setD D 7 7 = true) => d5_1
      have hI : Inv w [] (cpItems (.blk b7 (.cells c7.toArray t_iTerm)) (.blk b4 (.cells #[.int .i64 0, .int .i64 0, .string ⟨#[]⟩, .slice none 0 0] t_iTerm)) (.blk b5 (.cells #[.int .i64 k, .int .i64 0, .string s, kvc] t_iTerm)) (.blk b5 (.cells #[.int .i64 k, .int .i64 0, .string s, x38] t_iTerm)) (rowG kvc t_iTerm 4 css) (rowG x38 t_iTerm 4 (css ++ [cs7])) (blks Ls.flatten) M (.blk b8 (.cells cs7.toArray t_iTerm)) (D 3) (D 4) (D 5) true) S1 w_ := by
        rw [d3_6, d4_7, d5_1]
        exact hI
      exact ⟨h0_, h1_, h2_, h3_, h4_, h5_, h6_, fun _ => trivial, ⟨M, cs7, b8, e7, e8, k8, k9, k11, k1, hI⟩⟩
    intro D d7_ d6_ d5_ d4_ d3_ d2_ d1_ d0_ x39 x38 x37 x36 x35 x34 x33 w_
    rintro ⟨h0_, h1_, h2_, h3_, h4_, h5_, h6_, h7_, ⟨M, cs7, b8, e7, e8, k8, k9, k11, k1, hI⟩⟩
    obtain rfl := h6_ d6_
    have g5_ := h5_ d5_
    have g4_ := h4_ d4_
    have g3_ := h3_ d3_
    obtain rfl := h2_ d2_
    obtain rfl := h1_ d1_
    obtain rfl := h0_ d0_
    clear h0_ h1_ h2_ h3_ h4_ h5_ h6_ h7_
    obtain ⟨_, hT⟩ := e7 d3_
    rw [d3_, d4_, d5_, d7_] at hI
    refine r_add (by omega) ?_
    refine ⟨⟨j + 1, x38, Ls ++ [M], css ++ [cs7], hj', rfl, ?_, ?_⟩, by simp [intOf]; omega⟩
    · rw [fullL_take st ks j hj']
      exact hg'.snoc hT hT.length
    · simp only [List.flatten_append, List.flatten_cons, List.flatten_nil, List.append_nil, blks_append]
      refine hI.sub ?_
      simp only [cpItems]
      rw [← List.append_assoc]
      exact ((((List.sublist_append_left _ _).cons_cons _).cons_cons _).cons_cons _).cons _
  · have : j = ks.length := by omega
    subst this
    rw [List.take_length] at hg'
    obtain ⟨va, vn, vc, hvk'⟩ := hI.rowSlice 2 rfl
    have hv1 : kvc.oneCell' = true := by rw [hvk']; rfl
    refine r_loadW hI 1 ag_iTerm rfl rfl ?_
    refine r_storeW hI 0 rfl ag_iTerm rfl rfl ?_ fun w' hI => ?_
    · intro u hu
      have hu' : u ∈ ([.int .i64 k, .int .i64 0, .string s, kvc] : List Value) := hu
      simp at hu'
      rcases hu' with rfl | rfl | rfl | rfl <;> first | rfl | exact hv1
    refine loadV_W hI 0 ag_iTerm rfl rfl ?_
    have hI : Inv w [] ([] ++ (rowG kvc t_iTerm 4 css :: blks Ls.flatten)) S1 w' := hI.sub (List.sublist_append_right [_, _] _)
    obtain ⟨L, hT, hI⟩ := Inv.rowTree hI hg'
    exact ⟨_, _, _, rfl, hI.less hle, Ext.refl _ _ _, rfl, _, L, rfl, rfl, TrT.iff.2 ⟨kvc, rfl, h1, by simp [inI, fullS, T.n], hs, hT⟩⟩
end

end Go.Proofs.Ytgdibnmabnimaaa

/- slices.Delete on a tree of the function's own. -/
namespace Go.Proofs.Ytgdibnmabnimaaa
open Go Go.RowKit
section
variable {P : Program} {w w0 : World} {X : List Nat} {L : List Item} {S : Store} {K : Value → World → Prop}
attribute [local irreducible] Run CondV GuardV LoadV
/- append within the room of a block -/
theorem r_appendIn (h : Inv w0 X L S w) {T ty e E : TypeId} {k by_ n m g o cap cp : Nat} {z : Value} {cs : List Bool} {cur : Array Value} (i : Nat) (news : List Value) {a : Addr} (ha : a = ⟨g, o, none⟩ ∨ m = 0)
    (hT : mkOf P T = some (e, k, by_, z)) (hi : L[i]? = some (.blk g (.cells cur E))) (hl : news.length = m * k) (hnews : ∀ j u, news[j]? = some u → cur[o + j]? = some u) (h1 : ∀ u ∈ news, u.oneCell' = true)
    (hroom : n + m ≤ cap) (hfit : n * k + news.length ≤ cur.size) (hk : ∀ w', Inv w0 X (L.set i (.blk g (.cells (putCells cur (n * k) news) E))) S w' → K (.slice (some ⟨g, 0, none⟩) (n + m) cap) w') :
    Run P (sBuiltin .append #[T, T] ty cs [.slice (some ⟨g, 0, none⟩) n cap, .slice (some a) m cp]) w K := by
  obtain ⟨hu, inf, hi', hz, hs, hb, hzs⟩ := mkOf_some hT
  have hg := h.its _ (List.mem_of_getElem? hi)
  simp only [Item.holds] at hg
  have hn : ∀ j u, news[j]? = some u → w.cell? (a.add j) = some u := by
    intro j u hj
    rcases ha with rfl | rfl
    · rw [add_lit, h.cellL hi]
      exact hnews j u hj
    · rw [Nat.zero_mul] at hl
      have : news = [] := List.eq_nil_of_length_eq_zero hl
      subst this
      simp at hj
  have hf := run_firstCells_some (P := P) w inf.size m a m cp news (by rw [hs]; exact hl) hn
  have hst := run_storeCells_at P g (n * k) E news 0 cur w hg (by simpa using hfit) h1
  simp only [Nat.add_zero] at hst
  refine Run.of (v := .slice (some ⟨g, 0, none⟩) (n + m) cap) (w' := w.setRow g (putCells cur (n * k) news)) ?_ (hk _ (h.setBlk hi _ (setRow_eq hg)))
  rw [hs] at hf
  simp [sBuiltin, builtin, Builtin.append_, run_underlying hu, sizeOf, typeInfo, hi', Builtin.lenOf, hroom, hf, hs, hst, putCells, add_lit]
theorem r_clear (h : Inv w0 X L S w) {T ty e E : TypeId} {k by_ n g o cp : Nat} {z : Value} {cs : List Bool} {cur : Array Value} (i : Nat)
    (hT : mkOf P T = some (e, k, by_, z)) (hi : L[i]? = some (.blk g (.cells cur E))) (hfit : o + n * k ≤ cur.size) (hn : 0 < n) (h1 : ∀ u ∈ (Builtin.zeroCells z.cells n).toList, u.oneCell' = true)
    (hk : ∀ w', Inv w0 X (L.set i (.blk g (.cells (putCells cur o (Builtin.zeroCells z.cells n).toList) E))) S w' → K (.tuple #[]) w') :
    Run P (sBuiltin .clear #[T] ty cs [.slice (some ⟨g, o, none⟩) n cp]) w K := by
  obtain ⟨hu, inf, hi', hz, hs, hb, hzs⟩ := mkOf_some hT
  have hg := h.its _ (List.mem_of_getElem? hi)
  simp only [Item.holds] at hg
  obtain ⟨n', rfl⟩ : ∃ n', n = n' + 1 := ⟨n - 1, by omega⟩
  have hst := run_storeCells_at P g o E (Builtin.zeroCells z.cells (n' + 1)).toList 0 cur w hg (by rw [Array.length_toList, size_zeroCells, hzs]; simpa using hfit) h1
  simp only [Nat.add_zero] at hst
  refine Run.of (v := .tuple #[]) (w' := w.setRow g (putCells cur o (Builtin.zeroCells z.cells (n' + 1)).toList)) ?_ (hk _ (h.setBlk hi _ (setRow_eq hg)))
  simp [sBuiltin, builtin, Builtin.clear_, run_underlying hu, zeroValue, typeInfo, hi', hz, hst, putCells]
end
theorem cellsAt_put_in {c : Array Value} {p q k : Nat} {news : List Value} (hf : p + news.length ≤ c.size) (hq : q + k ≤ news.length) : cellsAt (putCells c p news) (p + q) k = (news.drop q).take k := by
  apply List.ext_getElem?
  intro i
  simp only [cellsAt, putCells, List.getElem?_take, List.getElem?_drop]
  split
  · rename_i hi
    simp only [List.getElem?_append, List.length_append, List.length_take, Array.length_toList]
    have e1 : min p c.size = p := by omega
    rw [e1, if_pos (by omega), if_neg (by omega)]
    congr 1
    omega
  · rfl
theorem sub_flatten {α : Type} {l m : List (List α)} (h : List.Sublist l m) : List.Sublist l.flatten m.flatten := by
  induction h with
  | slnil => exact List.Sublist.refl _
  | cons a _ ih => rw [List.flatten_cons]; exact ih.trans (List.sublist_append_right _ _)
  | cons_cons a _ ih => rw [List.flatten_cons, List.flatten_cons]; exact List.Sublist.append_left ih _

end Go.Proofs.Ytgdibnmabnimaaa

/- slices.Clone and slices.DeleteFunc of terms. -/
namespace Go.Proofs.Ytgdibnmabnimaaa
open Go Go.RowKit

theorem indexF_pure {α : Type} (p : α → Bool) : ∀ (xs : List α) (k : Nat), ((indexF (σ := Unit) (fun _ x => (p x, ())) () xs k).1 = -1 ∧ xs.filter (fun x => !p x) = xs) ∨
    ∃ j, ∃ h : j < xs.length, (indexF (σ := Unit) (fun _ x => (p x, ())) () xs k).1 = ((k + j : Nat) : Int) ∧ p xs[j] = true ∧ (xs.take j).filter (fun x => !p x) = xs.take j
  | [], k => .inl ⟨rfl, rfl⟩
  | x :: xs, k => by
    rw [indexF]
    cases hp : p x with
    | true => exact .inr ⟨0, by simp, by simp, by simpa using hp, by simp⟩
    | false =>
      rcases indexF_pure p xs (k + 1) with ⟨h1, h2⟩ | ⟨j, hj, h1, h2, h3⟩
      · refine .inl ⟨by simpa using h1, ?_⟩
        rw [List.filter_cons, hp]
        simp [h2]
      · refine .inr ⟨j + 1, by simpa using hj, ?_, by simpa using h2, ?_⟩
        · simp only [Bool.false_eq_true, if_false]
          rw [h1]
          congr 1
          omega
        · rw [List.take_succ_cons, List.filter_cons, hp]
          simp [h3]
section
variable {P : Program} {w w0 : World} {X : List Nat} {L : List Item} {S : Store} {K : Value → World → Prop}
attribute [local irreducible] Run CondV GuardV LoadV
theorem r_slNil {T e : TypeId} {k n c : Nat} {cx cy : Bool} {a : Option Addr} (hT : sliceOf P T = some (e, k)) (hk : K (.bool a.isNone) w) : Run P (sBin .eql T cx cy (.slice a n c) (.slice none 0 0)) w K := by
  obtain ⟨hu, _⟩ := sliceOf_size hT
  refine Run.of (v := .bool a.isNone) (w' := w) ?_ hk
  have he : (Op.equal T (.slice a n c) (.slice none 0 0)).run P w = .ok a.isNone w := by
    rw [Op.equal, Op.maxDepth, Op.equalIn.eq_def]
    cases a <;> simp [run_underlying hu]
  have hg : ∀ x y, (eqGuard .eql T x y (.slice a n c) (.slice none 0 0)).run P w = .ok () w := fun x y => by unfold eqGuard; simp
  simp only [sBin, binOp, Sem.run_bind, hg, Result.andThen_ok, he, Sem.run_pure]
theorem Run.callVPure {f : FuncId} {fn : Func} {cap args : List Value} {r : Value} (hf : P.funcs[f]? = some fn) (hn : (fn.name == "runtime.NumGoroutine" || fn.body.isNone) = false) (h : Inv w0 X L S w) (hc : Pure P f (args ++ cap) S r)
    (hk : ∀ w', Inv w0 X L S w' → K r w') : Run P (sCall (fv f cap) args) w K := by
  refine Run.callV (A := L) (I := []) hf hn (by simpa using h) (Post := fun v I' S' => v = r ∧ I' = [] ∧ S' = S) ?_ fun v' I' S' w' => ?_
  · intro w1 hI
    exact (hc w1 hI).mono fun e w' ⟨he, hI⟩ => ⟨_, _, _, he, hI, Ext.refl _ _ _, rfl, rfl, rfl⟩
  · rintro ⟨rfl, rfl, rfl⟩ _ hI
    exact hk _ (by simpa using hI)
end
section
attribute [local irreducible] Run CondV GuardV LoadV
end

end Go.Proofs.Ytgdibnmabnimaaa

/- impl.mapVars with a function that only reads: the result is published. -/
namespace Go.Proofs.Ytgdibnmabnimaaa
open Go Go.RowKit
mutual
def mapR (φ : Int → T) : T → T
  | .mk k n s ks => if k = 1 then φ n else .mk k n s (mapRL φ ks)
def mapRL (φ : Int → T) : List T → List T
  | [] => []
  | t :: ts => mapR φ t :: mapRL φ ts
end
theorem mapRL_map (φ : Int → T) : ∀ ts : List T, mapRL φ ts = ts.map (mapR φ)
  | [] => rfl
  | t :: ts => by rw [mapRL, mapRL_map φ ts]; rfl
theorem mapRL_take (φ : Int → T) (ks : List T) (j : Nat) (h : j < ks.length) : mapRL φ (ks.take (j + 1)) = mapRL φ (ks.take j) ++ [mapR φ ks[j]] := by
  rw [mapRL_map, mapRL_map, List.take_succ_eq_append_getElem h, List.map_append]; rfl
/- a function from numbers to terms that only reads -/
def Fun (f : FuncId) (cap : List Value) (S : Store) (φ : Int → T) : Prop := ∀ S', Sle S S' → ∀ n : Int, 0 ≤ n → n ≤ 25 → ∃ cs, RdT S' cs (φ n) ∧ Pure Try.prog f (.int .i64 n :: cap) S' (.agg cs.toArray)
theorem Fun.mono {f : FuncId} {cap : List Value} {S S' : Store} {φ : Int → T} (h : Fun f cap S φ) (hs : Sle S S') : Fun f cap S' φ := fun S2 h2 => h S2 (hs.trans h2)
abbrev PostG (t : T) : Value → List Item → Store → Prop := fun v I' S' => I' = [] ∧ ∃ cs, v = .agg cs.toArray ∧ RdT S' cs t
section
attribute [local irreducible] Run CondV GuardV LoadV
theorem mapR_calls {f : FuncId} {fn : Func} (cap : List Value) (φ : Int → T) (hf : Try.prog.funcs[f]? = some fn) (hn : (fn.name == "runtime.NumGoroutine" || fn.body.isNone) = false) :
    ∀ (t : T) (S : Store) (cs : List Value), RdT S cs t → okV t → wT t ≤ 1048576 → Fun f cap S φ → Tri Try.prog n_i_mapVars [.agg cs.toArray, fv f cap] [] S (PostG (mapR φ t)) := by
  refine T.ind fun k n s ks ih S cs h hv hw hφ => ?_
  intro w hI
  obtain ⟨kv, rfl, h1, h2, hs, hks⟩ := RdT.iff.1 h
  simp only [T.name, T.kids, T.kind, T.n] at h1 h2 hs hks ⊢
  simp only [wT] at hw
  rw [okV] at hv
  have hvk := hv.2
  refine calls_i_mapVars ?_
  unfold sh_i_mapVars
  refine r_box hI fun b2 w' hI => ?_
  refine r_alloc hI zo_iTerm fun b4 w' hI => ?_
  refine r_fieldL hI 0 rfl fo_iTerm_0 sc_int rfl ?_
  refine r_eql ?_
  rw [mapR]
  refine condP (fun hk1 => ?_) (fun hk1 => ?_)
  · rw [if_pos hk1]
    obtain ⟨hn0, hn25⟩ := hv.1 hk1
    refine r_fieldL hI 0 rfl fo_iTerm_1 sc_int rfl ?_
    obtain ⟨ds, hds, hp⟩ := hφ S (Sle.refl S) n hn0 hn25
    refine Run.callVPure hf hn hI hp fun w' hI => ?_
    refine r_storeW hI 1 rfl ag_iTerm (by simpa using hds.length) rfl (by simpa using hds.one) fun w' hI => ?_
    refine loadV_W hI 1 ag_iTerm rfl (by simpa using hds.length) ?_
    exact ⟨_, _, _, rfl, hI.pick [false, false], Ext.refl _ _ _, rfl, ds, rfl, hds⟩
  rw [if_neg hk1]
  refine r_fieldL hI 0 rfl fo_iTerm_3 sc_SiTerm rfl ?_
  refine r_fieldSt hI 0 rfl fo_iTerm_3 sc_SiTerm rfl rfl rfl fun w' hI => ?_
  refine r_lenSl hks sl_SiTerm ?_
  have hI : Inv w [] [.blk b4 (.cells #[.int .i64 0, .int .i64 0, .string ⟨#[]⟩, .slice none 0 0] t_iTerm), .blk b2 (.cells #[.int .i64 k, .int .i64 n, .string s, .slice none 0 0] t_iTerm)] S w' := hI.perm (List.Perm.swap _ _ _)
  have hI := hI.rowNil t_iTerm 4
  refine ⟨fun i w' => ∃ (j : Nat) (kvc : Value) (css : List (List Value)) (S1 : Store), j ≤ ks.length ∧ i = .int .i64 j ∧ Ext w.heap.size [] S S1 ∧ Rows 4 (RdT S1) css (mapRL φ (ks.take j)) ∧
      Inv w [] [.blk b4 (.cells #[.int .i64 0, .int .i64 0, .string ⟨#[]⟩, .slice none 0 0] t_iTerm), .blk b2 (.cells #[.int .i64 k, .int .i64 n, .string s, kvc] t_iTerm), rowG kvc t_iTerm 4 css] S1 w',
    fun i _ => ks.length - (intOf i).toNat, ⟨0, _, [], S, Nat.zero_le _, rfl, Ext.refl _ _ _, Rows.nil _ _, hI⟩, ?_⟩
  intro t20 _ _ _ _ _ _ _ _ _ _ _ _ _ w'
  rintro ⟨j, kvc, css, S1, hj, rfl, hE, hg, hI⟩
  refine r_lss ?_
  refine condP (fun hji => ?_) (fun hji => ?_)
  · have hj' : j < ks.length := by omega
    have hjl : (ks.take j).length = j := by simp; omega
    have hcl := hg.hc
    rw [mapRL_map, List.length_map] at hcl
    have hm := List.getElem_mem hj'
    have hwm := wL_mem hm
    refine r_elem hI (hks.monoT hE.1) sl_SiTerm ag_iTerm hj' (fun _ _ => RdT.length) fun cs0 hcs0 => ?_
    refine r_alloc hI zo_iTerm fun b7 w' hI => ?_
    have hI := hI.perm (M := .blk b7 _ :: [.blk b4 (.cells #[.int .i64 0, .int .i64 0, .string ⟨#[]⟩, .slice none 0 0] t_iTerm), .blk b2 (.cells #[.int .i64 k, .int .i64 n, .string s, kvc] t_iTerm), rowG kvc t_iTerm 4 css]) (List.perm_append_comm (l₁ := [_]))
    refine r_storeW hI 0 rfl ag_iTerm (by simpa using hcs0.length) rfl (by simpa using hcs0.one) fun w' hI => ?_
    refine ⟨fun D x31 x30 x29 x28 x27 x26 x25 x24 w_ => (D 0 = true → x24 = .pointer (some ⟨b2, 3, none⟩)) ∧ (D 1 = true → x25 = kvc) ∧ (D 2 = true → x26 = .agg cs0.toArray) ∧ (D 3 = true → x27 = fv f cap) ∧ (D 4 = true → True) ∧ (D 5 = true → True) ∧ (D 6 = true → True) ∧ (D 7 = true → x31 = .pointer (some ⟨b2, 3, none⟩)) ∧ (D 8 = true → True) ∧ ∃ SN cs7 b8, Ext w.heap.size [] S1 SN ∧ (D 4 = true → x28 = .agg cs7.toArray ∧ RdT SN cs7 (mapR φ ks[j])) ∧ (D 5 = true → x29 = .slice (some ⟨b8, 0, none⟩) 1 1) ∧ (D 5 = true → D 4 = true) ∧ (D 6 = true → D 5 = true) ∧ (D 8 = true → D 6 = true) ∧ (D 8 = true → D 1 = true) ∧ Inv w [] (cpItems (.blk b7 (.cells cs0.toArray t_iTerm)) (.blk b4 (.cells #[.int .i64 0, .int .i64 0, .string ⟨#[]⟩, .slice none 0 0] t_iTerm)) (.blk b2 (.cells #[.int .i64 k, .int .i64 n, .string s, kvc] t_iTerm)) (.blk b2 (.cells #[.int .i64 k, .int .i64 n, .string s, x30] t_iTerm)) (rowG kvc t_iTerm 4 css) (rowG x30 t_iTerm 4 (css ++ [cs7])) [] [] (.blk b8 (.cells cs7.toArray t_iTerm)) false (D 5) (D 6) (D 8)) SN w_, ⟨fun h => Bool.noConfusion h, fun h => Bool.noConfusion h, fun h => Bool.noConfusion h, fun h => Bool.noConfusion h, fun h => Bool.noConfusion h, fun h => Bool.noConfusion h, fun h => Bool.noConfusion h, fun h => Bool.noConfusion h, fun h => Bool.noConfusion h, ⟨S1, [], 0, Ext.refl _ _ _, fun h => Bool.noConfusion h, fun h => Bool.noConfusion h, fun h => Bool.noConfusion h, fun h => Bool.noConfusion h, fun h => Bool.noConfusion h, fun h => Bool.noConfusion h, by simpa [cpItems] using hI.draw⟩⟩, ⟨?_, ?_, ?_, ?_, ?_, ?_, ?_, ?_, ?_, trivial⟩, ?_⟩
    · intro D hD_  x31 x30 x29 x28 x27 x26 x25 x24 w_
      rintro ⟨h0_, h1_, h2_, h3_, h4_, h5_, h6_, h7_, h8_, ⟨SN, cs7, b8, hN, e7, e8, k8, k9, k11, k1, hI⟩⟩
      refine r_field fo_iTerm_3 ?_
      exact ⟨fun _ => rfl, h1_, h2_, h3_, h4_, h5_, h6_, h7_, h8_, ⟨SN, cs7, b8, hN, e7, e8, k8, k9, k11, k1, hI⟩⟩
    · intro D hD_ d0_0 x31 x30 x29 x28 x27 x26 x25 x24 w_
      rintro ⟨h0_, h1_, h2_, h3_, h4_, h5_, h6_, h7_, h8_, ⟨SN, cs7, b8, hN, e7, e8, k8, k9, k11, k1, hI⟩⟩
      obtain rfl := h0_ d0_0
      have f11 : D 8 = false := Bool.eq_false_iff.2 fun h => by rw [k1 h] at hD_; cases hD_
      refine r_loadL (b := b2) hI 2 (c := (#[.int .i64 k, .int .i64 n, .string s, kvc])) sc_SiTerm (by rw [f11]; rfl) rfl ?_
      have k1 := fun (_ : setD D 1 8 = true) => (rfl : setD D 1 1 = true)
      exact ⟨h0_, fun _ => rfl, h2_, h3_, h4_, h5_, h6_, h7_, h8_, ⟨SN, cs7, b8, hN, e7, e8, k8, k9, k11, k1, hI⟩⟩
    · intro D hD_  x31 x30 x29 x28 x27 x26 x25 x24 w_
      rintro ⟨h0_, h1_, h2_, h3_, h4_, h5_, h6_, h7_, h8_, ⟨SN, cs7, b8, hN, e7, e8, k8, k9, k11, k1, hI⟩⟩
      refine r_loadW hI 0 ag_iTerm rfl (by simpa using hcs0.length) ?_
      exact ⟨h0_, h1_, fun _ => rfl, h3_, h4_, h5_, h6_, h7_, h8_, ⟨SN, cs7, b8, hN, e7, e8, k8, k9, k11, k1, hI⟩⟩
    · intro D hD_  x31 x30 x29 x28 x27 x26 x25 x24 w_
      rintro ⟨h0_, h1_, h2_, h3_, h4_, h5_, h6_, h7_, h8_, ⟨SN, cs7, b8, hN, e7, e8, k8, k9, k11, k1, hI⟩⟩
      exact ⟨h0_, h1_, h2_, fun _ => rfl, h4_, h5_, h6_, h7_, h8_, ⟨SN, cs7, b8, hN, e7, e8, k8, k9, k11, k1, hI⟩⟩
    · intro D hD_ d2_0 d3_1 x31 x30 x29 x28 x27 x26 x25 x24 w_
      rintro ⟨h0_, h1_, h2_, h3_, h4_, h5_, h6_, h7_, h8_, ⟨SN, cs7, b8, hN, e7, e8, k8, k9, k11, k1, hI⟩⟩
      obtain rfl := h2_ d2_0
      obtain rfl := h3_ d3_1
      have f8 : D 5 = false := Bool.eq_false_iff.2 fun h => by rw [k8 h] at hD_; cases hD_
      have f9 : D 6 = false := Bool.eq_false_iff.2 fun h => by rw [k9 h] at f8; cases f8
      have f11 : D 8 = false := Bool.eq_false_iff.2 fun h => by rw [k11 h] at f9; cases f9
      rw [f8, f9, f11] at hI
      refine Run.callE (I := []) fn_i_mapVars nm_i_mapVars (by simpa using hI) (ih _ (List.getElem_mem hj') SN cs0 (hcs0.mono hN.1) (okVL_mem hvk _ (List.getElem_mem hj')) (by omega) ((hφ.mono hE.1).mono hN.1)) fun v' I' SN w_ => ?_
      rintro ⟨rfl, cs7, rfl, hT⟩ hE2 hI
      have hN := hN.trans hE2
      have e7 : setD D 4 4 = true → Value.agg cs7.toArray = Value.agg cs7.toArray ∧ RdT SN cs7 (mapR φ ks[j]) := fun _ => ⟨rfl, hT⟩
      have k8 := fun (_ : setD D 4 5 = true) => (rfl : setD D 4 4 = true)
      have hI : Inv w [] (cpItems (.blk b7 (.cells cs0.toArray t_iTerm)) (.blk b4 (.cells #[.int .i64 0, .int .i64 0, .string ⟨#[]⟩, .slice none 0 0] t_iTerm)) (.blk b2 (.cells #[.int .i64 k, .int .i64 n, .string s, kvc] t_iTerm)) (.blk b2 (.cells #[.int .i64 k, .int .i64 n, .string s, x30] t_iTerm)) (rowG kvc t_iTerm 4 css) (rowG x30 t_iTerm 4 (css ++ [cs7])) [] [] (.blk b8 (.cells cs7.toArray t_iTerm)) false (D 5) (D 6) (D 8)) SN w_ := by
        rw [f8, f9, f11]
        simpa [cpItems] using hI
      exact ⟨h0_, h1_, h2_, h3_, fun _ => by first | assumption | trivial, h5_, h6_, h7_, h8_, ⟨SN, cs7, b8, hN, e7, e8, k8, k9, k11, k1, hI⟩⟩
    · intro D hD_ d4_0 x31 x30 x29 x28 x27 x26 x25 x24 w_
      rintro ⟨h0_, h1_, h2_, h3_, h4_, h5_, h6_, h7_, h8_, ⟨SN, cs7, b8, hN, e7, e8, k8, k9, k11, k1, hI⟩⟩
      have g4_ := h4_ d4_0
      have f9 : D 6 = false := Bool.eq_false_iff.2 fun h => by rw [k9 h] at hD_; cases hD_
      have f11 : D 8 = false := Bool.eq_false_iff.2 fun h => by rw [k11 h] at f9; cases f9
      obtain ⟨q7, hT⟩ := e7 d4_0
      subst q7
      rw [hD_, f9, f11] at hI
      refine r_slice1 hI mk_SiTerm (by simp [Value.cells, hT.length]) (by omega) (by omega) fun b8 w_ hI => ?_
      have e7 : setD D 5 4 = true → Value.agg cs7.toArray = Value.agg cs7.toArray ∧ RdT SN cs7 (mapR φ ks[j]) := fun _ => ⟨rfl, hT⟩
      have e8 := fun (_ : setD D 5 5 = true) => (rfl : Value.slice (some ⟨b8, 0, none⟩) 1 1 = _)
      have k8 := fun (_ : setD D 5 5 = true) => d4_0
      have k9 := fun (_ : setD D 5 6 = true) => (rfl : setD D 5 5 = true)
      have hI : Inv w [] (cpItems (.blk b7 (.cells cs0.toArray t_iTerm)) (.blk b4 (.cells #[.int .i64 0, .int .i64 0, .string ⟨#[]⟩, .slice none 0 0] t_iTerm)) (.blk b2 (.cells #[.int .i64 k, .int .i64 n, .string s, kvc] t_iTerm)) (.blk b2 (.cells #[.int .i64 k, .int .i64 n, .string s, x30] t_iTerm)) (rowG kvc t_iTerm 4 css) (rowG x30 t_iTerm 4 (css ++ [cs7])) [] [] (.blk b8 (.cells cs7.toArray t_iTerm)) false true (D 6) (D 8)) SN w_ := by
        rw [f9, f11]
        simpa [cpItems, Value.cells] using hI
      exact ⟨h0_, h1_, h2_, h3_, h4_, fun _ => by first | assumption | trivial, h6_, h7_, h8_, ⟨SN, cs7, b8, hN, e7, e8, k8, k9, k11, k1, hI⟩⟩
    · intro D hD_ d1_0 d5_1 d4_2 x31 x30 x29 x28 x27 x26 x25 x24 w_
      rintro ⟨h0_, h1_, h2_, h3_, h4_, h5_, h6_, h7_, h8_, ⟨SN, cs7, b8, hN, e7, e8, k8, k9, k11, k1, hI⟩⟩
      obtain rfl := h1_ d1_0
      have g5_ := h5_ d5_1
      have f11 : D 8 = false := Bool.eq_false_iff.2 fun h => by rw [k11 h] at hD_; cases hD_
      have q8 := e8 d5_1
      subst q8
      obtain ⟨_, hT⟩ := e7 d4_2
      rw [d5_1, hD_, f11] at hI
      have hblk : ((cpItems (.blk b7 (.cells cs0.toArray t_iTerm)) (.blk b4 (.cells #[.int .i64 0, .int .i64 0, .string ⟨#[]⟩, .slice none 0 0] t_iTerm)) (.blk b2 (.cells #[.int .i64 k, .int .i64 n, .string s, x25] t_iTerm)) (.blk b2 (.cells #[.int .i64 k, .int .i64 n, .string s, x30] t_iTerm)) (rowG x25 t_iTerm 4 css) (rowG x30 t_iTerm 4 (css ++ [cs7])) [] [] (.blk b8 (.cells cs7.toArray t_iTerm)) false true false false))[4]? = some (.blk b8 (.cells cs7.toArray t_iTerm)) := rfl
      refine r_append hI 3 cs7 mk_SiTerm (by omega) rfl (by rw [hT.length]) (m := 1) (o := 0) ?_ hT.one (by omega) (by omega) fun v' w_ hI => ?_
      · intro i u hi
        rw [hI.cellL hblk, Nat.zero_add]
        simpa using hi
      rw [rowG_snoc] at hI
      have k9 := fun (_ : setD D 6 6 = true) => d5_1
      have k11 := fun (_ : setD D 6 8 = true) => (rfl : setD D 6 6 = true)
      have hI : Inv w [] (cpItems (.blk b7 (.cells cs0.toArray t_iTerm)) (.blk b4 (.cells #[.int .i64 0, .int .i64 0, .string ⟨#[]⟩, .slice none 0 0] t_iTerm)) (.blk b2 (.cells #[.int .i64 k, .int .i64 n, .string s, x25] t_iTerm)) (.blk b2 (.cells #[.int .i64 k, .int .i64 n, .string s, v'] t_iTerm)) (rowG x25 t_iTerm 4 css) (rowG v' t_iTerm 4 (css ++ [cs7])) [] [] (.blk b8 (.cells cs7.toArray t_iTerm)) false (D 5) true (D 8)) SN w_ := by
        rw [d5_1, f11]
        exact hI
      exact ⟨h0_, h1_, h2_, h3_, h4_, h5_, fun _ => by first | assumption | trivial, h7_, h8_, ⟨SN, cs7, b8, hN, e7, e8, k8, k9, k11, k1, hI⟩⟩
    · intro D hD_ d0_0 d1_1 d2_2 d3_3 d4_4 d5_5 d6_6 x31 x30 x29 x28 x27 x26 x25 x24 w_
      rintro ⟨h0_, h1_, h2_, h3_, h4_, h5_, h6_, h7_, h8_, ⟨SN, cs7, b8, hN, e7, e8, k8, k9, k11, k1, hI⟩⟩
      refine r_field fo_iTerm_3 ?_
      exact ⟨h0_, h1_, h2_, h3_, h4_, h5_, h6_, fun _ => rfl, h8_, ⟨SN, cs7, b8, hN, e7, e8, k8, k9, k11, k1, hI⟩⟩
    · intro D hD_ d7_0 d6_1 d6_2 d0_3 d1_4 d2_5 d3_6 d4_7 d5_8 d6_9 x31 x30 x29 x28 x27 x26 x25 x24 w_
      rintro ⟨h0_, h1_, h2_, h3_, h4_, h5_, h6_, h7_, h8_, ⟨SN, cs7, b8, hN, e7, e8, k8, k9, k11, k1, hI⟩⟩
      obtain rfl := h7_ d7_0
      have g6_ := h6_ d6_1
      rw [d5_8, d6_1, hD_] at hI
      obtain ⟨va, vn, vc, hv9⟩ := Inv.rowSlice hI 3 rfl
      refine r_store hI 2 (n := 1) (by rw [hv9]; rfl) (by decide +kernel) rfl (by simp) (by rw [hv9]; simp [Value.cells, Value.oneCell']) fun w_ hI => ?_
      have hcl9 : Value.cells x30 = #[x30] := by rw [hv9]; rfl
      rw [hcl9] at hI
      have k1 := fun (_ : setD D 8 8 = true) => d1_4
      have k11 := fun (_ : setD D 8 8 = true) => d6_1
      have hI : Inv w [] (cpItems (.blk b7 (.cells cs0.toArray t_iTerm)) (.blk b4 (.cells #[.int .i64 0, .int .i64 0, .string ⟨#[]⟩, .slice none 0 0] t_iTerm)) (.blk b2 (.cells #[.int .i64 k, .int .i64 n, .string s, kvc] t_iTerm)) (.blk b2 (.cells #[.int .i64 k, .int .i64 n, .string s, x30] t_iTerm)) (rowG kvc t_iTerm 4 css) (rowG x30 t_iTerm 4 (css ++ [cs7])) [] [] (.blk b8 (.cells cs7.toArray t_iTerm)) false (D 5) (D 6) true) SN w_ := by
        rw [d5_8, d6_1]
        exact hI
      exact ⟨h0_, h1_, h2_, h3_, h4_, h5_, h6_, h7_, fun _ => trivial, ⟨SN, cs7, b8, hN, e7, e8, k8, k9, k11, k1, hI⟩⟩
    intro D d8_ d7_ d6_ d5_ d4_ d3_ d2_ d1_ d0_ x31 x30 x29 x28 x27 x26 x25 x24 w_
    rintro ⟨h0_, h1_, h2_, h3_, h4_, h5_, h6_, h7_, h8_, ⟨SN, cs7, b8, hN, e7, e8, k8, k9, k11, k1, hI⟩⟩
    obtain rfl := h7_ d7_
    have g6_ := h6_ d6_
    have g5_ := h5_ d5_
    have g4_ := h4_ d4_
    obtain rfl := h3_ d3_
    obtain rfl := h2_ d2_
    obtain rfl := h1_ d1_
    obtain rfl := h0_ d0_
    clear h0_ h1_ h2_ h3_ h4_ h5_ h6_ h7_ h8_
    obtain ⟨_, hT⟩ := e7 d4_
    rw [d5_, d6_, d8_] at hI
    refine r_add (by omega) ?_
    refine ⟨⟨j + 1, x30, css ++ [cs7], SN, hj', rfl, hE.trans hN, ?_, ?_⟩, by simp [intOf]; omega⟩
    · rw [mapRL_take φ ks j hj']
      exact (Rows.monoR hg fun _ _ h => h.mono hN.1).snoc hT hT.length
    · refine hI.sub ?_
      simp only [cpItems]
      exact ((((List.nil_sublist _).cons_cons _).cons_cons _).cons_cons _).cons _
  · have : j = ks.length := by omega
    subst this
    rw [List.take_length] at hg
    obtain ⟨va, vn, vc, hvk'⟩ := hI.rowSlice 2 rfl
    have hv1 : kvc.oneCell' = true := by rw [hvk']; rfl
    refine r_loadW hI 1 ag_iTerm rfl rfl ?_
    refine r_storeW hI 0 rfl ag_iTerm rfl rfl ?_ fun w' hI => ?_
    · intro u hu
      have hu' : u ∈ ([.int .i64 k, .int .i64 n, .string s, kvc] : List Value) := hu
      simp at hu'
      rcases hu' with rfl | rfl | rfl | rfl <;> first | rfl | exact hv1
    refine loadV_W hI 0 ag_iTerm rfl rfl ?_
    have hI : Inv w [] ([] ++ [rowG kvc t_iTerm 4 css]) S1 w' := hI.sub (List.sublist_append_right [_, _] _)
    obtain ⟨S2, hE2, hrd, hI⟩ := hI.lendExt
    exact ⟨_, _, _, rfl, hI, hE.trans hE2, rfl, _, rfl, RdT.iff.2 ⟨kvc, rfl, h1, h2, hs, (RowRd.rows hg hrd).mono (Sle.refl _) fun _ _ h => h.mono hE2.1⟩⟩
end

end Go.Proofs.Ytgdibnmabnimaaa

/- Matching with a map: impl.instance. -/
namespace Go.Proofs.Ytgdibnmabnimaaa
open Go Go.RowKit

/- the map of impl.instance -/
def KnownM (S : Store) (es : Array MapEntry) (st : Known) : Prop :=
  (∀ e ∈ es.toList, ∃ (n : Nat) (t : T) (cs : List Value), e.key = .int .i64 n ∧ e.val = .agg cs.toArray ∧ RdT S cs t ∧ st[n]? = some (some t)) ∧ (∀ (n : Nat) (t : T), st[n]? = some (some t) → ∃ e ∈ es.toList, e.key = .int .i64 n)
theorem KnownM.find {S : Store} {es : Array MapEntry} {st : Known} (h : KnownM S es st) (n : Nat) :
    (∃ j v t cs, Instr.findNow (.int .i64) (.int .i64 n) es.toList 0 = some (some (j, v)) ∧ v = .agg cs.toArray ∧ RdT S cs t ∧ st[n]? = some (some t)) ∨
    ((∀ t, st[n]? ≠ some (some t)) ∧ Instr.findNow (.int .i64) (.int .i64 n) es.toList 0 = some none) := by
  rcases findNow_int (n := n) es.toList 0 (fun e he => by obtain ⟨m, _, _, hk, _⟩ := h.1 e he; exact ⟨m, hk⟩) with ⟨j, e, he, hk, hf⟩ | ⟨hk, hf⟩
  · obtain ⟨m, t, cs, hk2, hv, hR, hs⟩ := h.1 e he
    rw [hk] at hk2
    simp only [Value.int.injEq, true_and] at hk2
    have : n = m := by omega
    subst this
    exact .inl ⟨j, e.val, t, cs, hf, hv, hR, hs⟩
  · refine .inr ⟨fun t ht => ?_, hf⟩
    obtain ⟨e, he, hk2⟩ := h.2 n t ht
    exact hk e he hk2
theorem KnownM.push {S : Store} {es : Array MapEntry} {st : Known} (h : KnownM S es st) {n : Nat} (hn : n < st.length) (hno : ∀ t, st[n]? ≠ some (some t)) {cs : List Value} {u : T} (hu : RdT S cs u) (ck : Nat) :
    KnownM S (es.push { key := .int .i64 n, val := .agg cs.toArray, born := ck }) (st.set n (some u)) := by
  refine ⟨fun e he => ?_, fun m t ht => ?_⟩
  · rw [Array.toList_push] at he
    rcases List.mem_append.1 he with he | he
    · obtain ⟨m, t, cs', hk, hv, hR, hs⟩ := h.1 e he
      refine ⟨m, t, cs', hk, hv, hR, ?_⟩
      have : n ≠ m := fun e => hno t (by rw [e]; exact hs)
      rw [List.getElem?_set_ne this]
      exact hs
    · simp at he
      subst he
      exact ⟨n, u, cs, rfl, rfl, hu, by rw [List.getElem?_set_self hn]⟩
  · rw [Array.toList_push]
    by_cases e : n = m
    · exact ⟨_, List.mem_append_right _ (List.mem_singleton.2 rfl), by rw [e]⟩
    · rw [List.getElem?_set_ne e] at ht
      obtain ⟨x, hx, hk⟩ := h.2 m t ht
      exact ⟨x, List.mem_append_left _ hx, hk⟩
theorem hdEq_comm (t u : T) : hdEq t u = hdEq u t := by
  rw [hdEq, hdEq, Bool.eq_iff_iff]
  simp only [Bool.and_eq_true, decide_eq_true_eq]
  constructor
  · rintro ⟨a, b, c, d⟩; exact ⟨a.symm, b.symm, c.symm, d.symm⟩
  · rintro ⟨a, b, c, d⟩; exact ⟨a.symm, b.symm, c.symm, d.symm⟩
section
attribute [local irreducible] Run CondV GuardV LoadV
theorem instance_calls : ∀ (t u : T) (S : Store) (cs ds : List Value) (mb ck : Nat) (es : Array MapEntry) (st : Known), RdT S cs t → RdT S ds u → okV t → okK u → stOk st → KnownM S es st →
    Tri Try.prog n_i_instance [.agg ds.toArray, .agg cs.toArray, .map (some mb)] [.blk mb (.map es ck)] S fun r I' S' => S' = S ∧ r = .bool (matchT t u st).1 ∧ ∃ es' ck', I' = [.blk mb (.map es' ck')] ∧ KnownM S es' (matchT t u st).2 := by
  refine T.ind fun k' n' s' ks' ih u S cs ds mb ck es st h' h hv hu hst hkc => ?_
  intro w hI
  have hds := h
  obtain ⟨kv', rfl, _, _, _, hks'⟩ := RdT.iff.1 h'
  obtain ⟨kv, rfl, _, _, _, hks⟩ := RdT.iff.1 h
  obtain ⟨k, n, s, ks⟩ := u
  simp only [T.name, T.kids, T.kind, T.n] at hks hks' ⊢
  have hlen := hks'.le
  simp only [maxLen] at hlen
  rw [okV] at hv
  obtain ⟨hv1, hv2⟩ := hv
  have huk := hu
  rw [okK] at hu
  obtain ⟨X, hX⟩ : ∃ X, X = feet [Item.blk mb (.map es ck)] := ⟨_, rfl⟩
  rw [← hX] at hI ⊢
  refine calls_i_instance ?_
  unfold sh_i_instance
  refine r_box hI fun b1 w' hI => ?_
  refine r_box hI fun b2 w' hI => ?_
  have hI : Inv w X [.blk b1 (.cells #[.int .i64 k, .int .i64 n, .string s, kv] t_iTerm), .blk b2 (.cells #[.int .i64 k', .int .i64 n', .string s', kv'] t_iTerm), .blk mb (.map es ck)] S w' := hI.perm (by
    refine (List.perm_append_comm (l₁ := [_, _]) (l₂ := [_])).trans ?_
    exact List.Perm.refl _)
  refine r_fieldL hI 1 rfl fo_iTerm_0 sc_int rfl ?_
  refine r_eql ?_
  refine condP (fun hk1 => ?_) (fun hk1 => ?_)
  · obtain ⟨hn0, hn25⟩ := hv1 hk1
    obtain ⟨j, rfl⟩ : ∃ j : Nat, n' = j := ⟨n'.toNat, by omega⟩
    have hj : j < 26 := by omega
    have hjs : j < st.length := by rw [hst.1]; exact hj
    refine r_fieldL hI 1 rfl fo_iTerm_1 sc_int rfl ?_
    rcases hkc.find j with ⟨q, v, t0, cs0, hf, rfl, hR, hst2⟩ | ⟨hno, hf⟩
    · refine r_lookup (v := .agg cs0.toArray) (ok := true) hI 2 un_Mint_iTerm un_int zo_iTerm rfl (.inl ⟨q, hf, rfl⟩) ?_
      refine r_extract rfl ?_
      refine r_extract rfl ?_
      have hlc := hR.length
      refine r_alloc hI zo_iTerm fun b7 w' hI => ?_
      refine r_storeW hI 3 rfl ag_iTerm (by simpa using hlc) rfl (by simpa using hR.one) fun w' hI => ?_
      refine r_not ?_
      refine condV (fun hb => by cases hb) (fun _ => ?_)
      refine r_loadW hI 3 ag_iTerm rfl (by simpa using hlc) ?_
      refine r_loadW hI 0 ag_iTerm rfl rfl ?_
      refine Run.callPure fn_i_TermSame nm_i_TermSame hI (i_TermSame_calls t0 _ S _ _ hR hds) fun w' hI => ?_
      have hm : matchT (.mk k' j s' ks') (.mk k n s ks) st = (eqT t0 (.mk k n s ks), st) := by
        rw [matchT, if_pos hk1, Int.toNat_natCast, hst2]
      rw [hm]
      exact ⟨_, _, _, rfl, hI.pick [false, false, true, false], Ext.refl _ _ _, rfl, rfl, _, _, rfl, hkc⟩
    · refine r_lookup (ok := false) hI 2 un_Mint_iTerm un_int zo_iTerm rfl (.inr ⟨hf, rfl, rfl⟩) ?_
      refine r_extract rfl ?_
      refine r_extract rfl ?_
      refine r_alloc hI zo_iTerm fun b7 w' hI => ?_
      refine r_storeW hI 3 rfl ag_iTerm rfl rfl (by simp [Value.oneCell']) fun w' hI => ?_
      refine r_not ?_
      refine condV (fun _ => ?_) (fun hb => by cases hb)
      refine r_fieldL hI 1 rfl fo_iTerm_1 sc_int rfl ?_
      refine r_loadW hI 0 ag_iTerm rfl rfl ?_
      refine r_mapNew hI 2 un_Mint_iTerm un_int rfl hf fun w' hI => ?_
      have hm : matchT (.mk k' j s' ks') (.mk k n s ks) st = (true, st.set j (some (.mk k n s ks))) := by
        rw [matchT, if_pos hk1, Int.toNat_natCast, List.getElem?_eq_getElem hjs]
        cases hq : st[j] with
        | none => rfl
        | some t => exact absurd (by rw [List.getElem?_eq_getElem hjs, hq]) (hno t)
      rw [hm]
      exact ⟨_, _, _, rfl, hI.pick [false, false, true, false], Ext.refl _ _ _, rfl, rfl, _, _, rfl, hkc.push hjs hno hds ck⟩
  refine ⟨fun q w' => q = .bool (!hdEq (.mk k n s ks) (.mk k' n' s' ks')) ∧ Inv w X [.blk b1 (.cells #[.int .i64 k, .int .i64 n, .string s, kv] t_iTerm), .blk b2 (.cells #[.int .i64 k', .int .i64 n', .string s', kv'] t_iTerm), .blk mb (.map es ck)] S w', ?_, ?_⟩
  · refine r_fieldL hI 0 rfl fo_iTerm_0 sc_int rfl ?_
    refine r_fieldL hI 1 rfl fo_iTerm_0 sc_int rfl ?_
    refine r_neq ?_
    by_cases e1 : k = k'
    · rw [decide_eq_true e1]
      repeat (first | refine guard_true ?_ | refine guard_ne (by decide) ?_ | refine guard_undef ?_ | refine r_pickT ?_ | refine r_pickF ?_)
      refine r_fieldL hI 0 rfl fo_iTerm_1 sc_int rfl ?_
      refine r_fieldL hI 1 rfl fo_iTerm_1 sc_int rfl ?_
      refine r_neq ?_
      by_cases e2 : n = n'
      · rw [decide_eq_true e2]
        repeat (first | refine guard_true ?_ | refine guard_ne (by decide) ?_ | refine guard_undef ?_ | refine r_pickT ?_ | refine r_pickF ?_)
        refine r_fieldL hI 0 rfl fo_iTerm_2 sc_string rfl ?_
        refine r_fieldL hI 1 rfl fo_iTerm_2 sc_string rfl ?_
        refine r_sneq ?_
        by_cases e3 : s = s'
        · rw [decide_eq_true e3]
          repeat (first | refine guard_true ?_ | refine guard_ne (by decide) ?_ | refine guard_undef ?_ | refine r_pickT ?_ | refine r_pickF ?_)
          refine r_fieldL hI 0 rfl fo_iTerm_3 sc_SiTerm rfl ?_
          refine r_lenSl hks sl_SiTerm ?_
          refine r_fieldL hI 1 rfl fo_iTerm_3 sc_SiTerm rfl ?_
          refine r_lenSl hks' sl_SiTerm ?_
          refine r_neq ?_
          repeat (first | refine guard_true ?_ | refine guard_ne (by decide) ?_ | refine guard_undef ?_ | refine r_pickT ?_ | refine r_pickF ?_)
          exact ⟨by rw [hdEq_mk, decide_eq_true e1, decide_eq_true e2, decide_eq_true e3, lenEq]; rfl, hI⟩
        · rw [decide_eq_false e3]
          repeat (first | refine guard_true ?_ | refine guard_ne (by decide) ?_ | refine guard_undef ?_ | refine r_pickT ?_ | refine r_pickF ?_)
          exact ⟨by rw [hdEq_mk, decide_eq_true e1, decide_eq_true e2, decide_eq_false e3]; rfl, hI⟩
      · rw [decide_eq_false e2]
        repeat (first | refine guard_true ?_ | refine guard_ne (by decide) ?_ | refine guard_undef ?_ | refine r_pickT ?_ | refine r_pickF ?_)
        exact ⟨by rw [hdEq_mk, decide_eq_true e1, decide_eq_false e2]; rfl, hI⟩
    · rw [decide_eq_false e1]
      repeat (first | refine guard_true ?_ | refine guard_ne (by decide) ?_ | refine guard_undef ?_ | refine r_pickT ?_ | refine r_pickF ?_)
      exact ⟨by rw [hdEq_mk, decide_eq_false e1]; rfl, hI⟩

  intro q _ _ _ _ _ _ _ _ _ _ _ _ _ _ _ _ _ _ _ _ _ _ _ _ _ _ _ w'
  rintro ⟨rfl, hI⟩
  cases hd : hdEq (.mk k n s ks) (.mk k' n' s' ks')
  · refine condV (fun _ => ?_) (fun hb => by cases hb)
    have hm : matchT (.mk k' n' s' ks') (.mk k n s ks) st = (false, st) := by rw [matchT, if_neg hk1, if_neg (by rw [hdEq_comm, hd]; decide)]
    rw [hm]
    exact ⟨_, _, _, rfl, hI.pick [false, false, true], Ext.refl _ _ _, rfl, rfl, _, _, rfl, hkc⟩
  refine condV (fun hb => by cases hb) (fun _ => ?_)
  have hle : ks.length = ks'.length := by
    rw [hdEq_mk] at hd
    simp only [Bool.and_eq_true, decide_eq_true_eq] at hd
    exact hd.2.2.2
  have hm : matchT (.mk k' n' s' ks') (.mk k n s ks) st = matchL ks' ks st := by rw [matchT, if_neg hk1, if_pos (by rw [hdEq_comm, hd])]; rfl
  rw [hm]
  have hu2 := hu.2
  refine r_fieldL hI 1 rfl fo_iTerm_3 sc_SiTerm rfl ?_
  refine r_lenSl hks' sl_SiTerm ?_
  refine ⟨fun i w' => ∃ (j : Nat) (st' : Known) (es' : Array MapEntry) (ck' : Nat), j ≤ ks'.length ∧ i = .int .i64 j ∧ matchL (ks'.drop j) (ks.drop j) st' = matchL ks' ks st ∧ stOk st' ∧ KnownM S es' st' ∧ Inv w X [.blk b1 (.cells #[.int .i64 k, .int .i64 n, .string s, kv] t_iTerm), .blk b2 (.cells #[.int .i64 k', .int .i64 n', .string s', kv'] t_iTerm), .blk mb (.map es' ck')] S w', fun i _ => ks'.length - (intOf i).toNat, ⟨0, st, es, ck, Nat.zero_le _, rfl, rfl, hst, hkc, hI⟩, ?_⟩
  intro t60 _ _ _ _ _ _ _ _ _ _ _ _ _ _ _ _ _ _ w'
  rintro ⟨j, st', es', ck', hj, rfl, hrel, hst', hkc', hI⟩
  refine r_lss ?_
  refine condP (fun hji => ?_) (fun hji => ?_)
  · have hj2 : j < ks'.length := by omega
    have hj1 : j < ks.length := by omega
    obtain ⟨c1, o1, cap1, a1, E1, fz1, rfl, hS1, hR1⟩ := hks.at_ hj1
    obtain ⟨c2, o2, cap2, a2, E2, fz2, rfl, hS2, hR2⟩ := hks'.at_ hj2
    rw [matchL_drop ks' ks st' j hj2 hj1] at hrel
    have hcall := ih _ (List.getElem_mem hj2) ks[j] S _ _ mb ck' es' st' hR2 hR1 (okVL_mem hv2 _ (List.getElem_mem hj2)) (okKL_mem hu2 _ (List.getElem_mem hj1)) hst' hkc'
    have hsn := match_ok ks'[j] ks[j] st' hst' (okKL_mem hu2 _ (List.getElem_mem hj1))
    generalize hr : matchT ks'[j] ks[j] st' = r at hrel hcall hsn
    refine ⟨fun D x75 x74 x73 x72 x71 x70 x69 x68 x67 x66 x65 x64 x63 w_ => (D 0 = true → x63 = .pointer (some ⟨b1, 3, none⟩)) ∧ (D 1 = true → x64 = .slice (some ⟨c1, o1, none⟩) ks.length cap1) ∧ (D 2 = true → x65 = .int .i64 j) ∧ (D 3 = true → x66 = .pointer (some ⟨c1, o1 + j * 4, none⟩)) ∧ (D 4 = true → x67 = .agg (cellsAt a1 (o1 + j * 4) 4).toArray) ∧ (D 5 = true → x68 = .pointer (some ⟨b2, 3, none⟩)) ∧ (D 6 = true → x69 = .slice (some ⟨c2, o2, none⟩) ks'.length cap2) ∧ (D 7 = true → x70 = .int .i64 j) ∧ (D 8 = true → x71 = .pointer (some ⟨c2, o2 + j * 4, none⟩)) ∧ (D 9 = true → x72 = .agg (cellsAt a2 (o2 + j * 4) 4).toArray) ∧ (D 10 = true → x73 = .map (some mb)) ∧ (D 11 = true → x74 = .bool r.1) ∧ (D 12 = true → x75 = .bool (!r.1)) ∧ (D 11 = false → Inv w X [.blk b1 (.cells #[.int .i64 k, .int .i64 n, .string s, .slice (some ⟨c1, o1, none⟩) ks.length cap1] t_iTerm), .blk b2 (.cells #[.int .i64 k', .int .i64 n', .string s', .slice (some ⟨c2, o2, none⟩) ks'.length cap2] t_iTerm), .blk mb (.map es' ck')] S w_) ∧ (D 11 = true → ∃ es2 ck2, KnownM S es2 r.2 ∧ Inv w X [.blk b1 (.cells #[.int .i64 k, .int .i64 n, .string s, .slice (some ⟨c1, o1, none⟩) ks.length cap1] t_iTerm), .blk b2 (.cells #[.int .i64 k', .int .i64 n', .string s', .slice (some ⟨c2, o2, none⟩) ks'.length cap2] t_iTerm), .blk mb (.map es2 ck2)] S w_) ∧ ∃ es3 ck3, Inv w X [.blk b1 (.cells #[.int .i64 k, .int .i64 n, .string s, .slice (some ⟨c1, o1, none⟩) ks.length cap1] t_iTerm), .blk b2 (.cells #[.int .i64 k', .int .i64 n', .string s', .slice (some ⟨c2, o2, none⟩) ks'.length cap2] t_iTerm), .blk mb (.map es3 ck3)] S w_, ⟨fun h => Bool.noConfusion h, fun h => Bool.noConfusion h, fun h => Bool.noConfusion h, fun h => Bool.noConfusion h, fun h => Bool.noConfusion h, fun h => Bool.noConfusion h, fun h => Bool.noConfusion h, fun h => Bool.noConfusion h, fun h => Bool.noConfusion h, fun h => Bool.noConfusion h, fun h => Bool.noConfusion h, fun h => Bool.noConfusion h, fun h => Bool.noConfusion h, ⟨fun _ => hI.draw, fun h => Bool.noConfusion h, es', ck', hI.draw⟩⟩, ⟨?_, ?_, ?_, ?_, ?_, ?_, ?_, ?_, ?_, ?_, ?_, ?_, ?_, trivial⟩, ?_⟩
    · intro D hD_  x75 x74 x73 x72 x71 x70 x69 x68 x67 x66 x65 x64 x63 w_
      rintro ⟨h0_, h1_, h2_, h3_, h4_, h5_, h6_, h7_, h8_, h9_, h10_, h11_, h12_, ⟨hI0, hI1, es3, ck3, hI⟩⟩
      refine r_field fo_iTerm_3 ?_
      exact ⟨fun _ => rfl, h1_, h2_, h3_, h4_, h5_, h6_, h7_, h8_, h9_, h10_, h11_, h12_, ⟨hI0, hI1, es3, ck3, hI⟩⟩
    · intro D hD_ d0_0 x75 x74 x73 x72 x71 x70 x69 x68 x67 x66 x65 x64 x63 w_
      rintro ⟨h0_, h1_, h2_, h3_, h4_, h5_, h6_, h7_, h8_, h9_, h10_, h11_, h12_, ⟨hI0, hI1, es3, ck3, hI⟩⟩
      obtain rfl := h0_ d0_0
      refine r_loadL hI 0 sc_SiTerm rfl rfl ?_
      exact ⟨h0_, fun _ => rfl, h2_, h3_, h4_, h5_, h6_, h7_, h8_, h9_, h10_, h11_, h12_, ⟨hI0, hI1, es3, ck3, hI⟩⟩
    · intro D hD_  x75 x74 x73 x72 x71 x70 x69 x68 x67 x66 x65 x64 x63 w_
      rintro ⟨h0_, h1_, h2_, h3_, h4_, h5_, h6_, h7_, h8_, h9_, h10_, h11_, h12_, ⟨hI0, hI1, es3, ck3, hI⟩⟩
      exact ⟨h0_, h1_, fun _ => rfl, h3_, h4_, h5_, h6_, h7_, h8_, h9_, h10_, h11_, h12_, ⟨hI0, hI1, es3, ck3, hI⟩⟩
    · intro D hD_ d1_0 d2_1 x75 x74 x73 x72 x71 x70 x69 x68 x67 x66 x65 x64 x63 w_
      rintro ⟨h0_, h1_, h2_, h3_, h4_, h5_, h6_, h7_, h8_, h9_, h10_, h11_, h12_, ⟨hI0, hI1, es3, ck3, hI⟩⟩
      obtain rfl := h1_ d1_0
      obtain rfl := h2_ d2_1
      refine r_indexAddr sl_SiTerm hj1 ?_
      exact ⟨h0_, h1_, h2_, fun _ => rfl, h4_, h5_, h6_, h7_, h8_, h9_, h10_, h11_, h12_, ⟨hI0, hI1, es3, ck3, hI⟩⟩
    · intro D hD_ d3_0 x75 x74 x73 x72 x71 x70 x69 x68 x67 x66 x65 x64 x63 w_
      rintro ⟨h0_, h1_, h2_, h3_, h4_, h5_, h6_, h7_, h8_, h9_, h10_, h11_, h12_, ⟨hI0, hI1, es3, ck3, hI⟩⟩
      obtain rfl := h3_ d3_0
      refine r_loadA ag_iTerm hR1.length (fun j v hj => by rw [hI.cellS hS1]; exact cellsAt_get rfl j v hj) ?_
      exact ⟨h0_, h1_, h2_, h3_, fun _ => rfl, h5_, h6_, h7_, h8_, h9_, h10_, h11_, h12_, ⟨hI0, hI1, es3, ck3, hI⟩⟩
    · intro D hD_  x75 x74 x73 x72 x71 x70 x69 x68 x67 x66 x65 x64 x63 w_
      rintro ⟨h0_, h1_, h2_, h3_, h4_, h5_, h6_, h7_, h8_, h9_, h10_, h11_, h12_, ⟨hI0, hI1, es3, ck3, hI⟩⟩
      refine r_field fo_iTerm_3 ?_
      exact ⟨h0_, h1_, h2_, h3_, h4_, fun _ => rfl, h6_, h7_, h8_, h9_, h10_, h11_, h12_, ⟨hI0, hI1, es3, ck3, hI⟩⟩
    · intro D hD_ d5_0 x75 x74 x73 x72 x71 x70 x69 x68 x67 x66 x65 x64 x63 w_
      rintro ⟨h0_, h1_, h2_, h3_, h4_, h5_, h6_, h7_, h8_, h9_, h10_, h11_, h12_, ⟨hI0, hI1, es3, ck3, hI⟩⟩
      obtain rfl := h5_ d5_0
      refine r_loadL hI 1 sc_SiTerm rfl rfl ?_
      exact ⟨h0_, h1_, h2_, h3_, h4_, h5_, fun _ => rfl, h7_, h8_, h9_, h10_, h11_, h12_, ⟨hI0, hI1, es3, ck3, hI⟩⟩
    · intro D hD_  x75 x74 x73 x72 x71 x70 x69 x68 x67 x66 x65 x64 x63 w_
      rintro ⟨h0_, h1_, h2_, h3_, h4_, h5_, h6_, h7_, h8_, h9_, h10_, h11_, h12_, ⟨hI0, hI1, es3, ck3, hI⟩⟩
      exact ⟨h0_, h1_, h2_, h3_, h4_, h5_, h6_, fun _ => rfl, h8_, h9_, h10_, h11_, h12_, ⟨hI0, hI1, es3, ck3, hI⟩⟩
    · intro D hD_ d6_0 d7_1 x75 x74 x73 x72 x71 x70 x69 x68 x67 x66 x65 x64 x63 w_
      rintro ⟨h0_, h1_, h2_, h3_, h4_, h5_, h6_, h7_, h8_, h9_, h10_, h11_, h12_, ⟨hI0, hI1, es3, ck3, hI⟩⟩
      obtain rfl := h6_ d6_0
      obtain rfl := h7_ d7_1
      refine r_indexAddr sl_SiTerm hj2 ?_
      exact ⟨h0_, h1_, h2_, h3_, h4_, h5_, h6_, h7_, fun _ => rfl, h9_, h10_, h11_, h12_, ⟨hI0, hI1, es3, ck3, hI⟩⟩
    · intro D hD_ d8_0 x75 x74 x73 x72 x71 x70 x69 x68 x67 x66 x65 x64 x63 w_
      rintro ⟨h0_, h1_, h2_, h3_, h4_, h5_, h6_, h7_, h8_, h9_, h10_, h11_, h12_, ⟨hI0, hI1, es3, ck3, hI⟩⟩
      obtain rfl := h8_ d8_0
      refine r_loadA ag_iTerm hR2.length (fun j v hj => by rw [hI.cellS hS2]; exact cellsAt_get rfl j v hj) ?_
      exact ⟨h0_, h1_, h2_, h3_, h4_, h5_, h6_, h7_, h8_, fun _ => rfl, h10_, h11_, h12_, ⟨hI0, hI1, es3, ck3, hI⟩⟩
    · intro D hD_  x75 x74 x73 x72 x71 x70 x69 x68 x67 x66 x65 x64 x63 w_
      rintro ⟨h0_, h1_, h2_, h3_, h4_, h5_, h6_, h7_, h8_, h9_, h10_, h11_, h12_, ⟨hI0, hI1, es3, ck3, hI⟩⟩
      exact ⟨h0_, h1_, h2_, h3_, h4_, h5_, h6_, h7_, h8_, h9_, fun _ => rfl, h11_, h12_, ⟨hI0, hI1, es3, ck3, hI⟩⟩
    · intro D hD_ d4_0 d9_1 d10_2 x75 x74 x73 x72 x71 x70 x69 x68 x67 x66 x65 x64 x63 w_
      rintro ⟨h0_, h1_, h2_, h3_, h4_, h5_, h6_, h7_, h8_, h9_, h10_, h11_, h12_, ⟨hI0, hI1, es3, ck3, hI⟩⟩
      obtain rfl := h4_ d4_0
      obtain rfl := h9_ d9_1
      obtain rfl := h10_ d10_2
      refine Run.call (A := [_, _]) fn_i_instance nm_i_instance (hI0 hD_) hcall fun v' I' S w_ => ?_
      rintro ⟨rfl, rfl, es2, ck2, rfl, hk2⟩ _ hI
      have hI0 := fun (h : setD D 11 11 = false) => (Bool.noConfusion h : Inv w X [.blk b1 (.cells #[.int .i64 k, .int .i64 n, .string s, .slice (some ⟨c1, o1, none⟩) ks.length cap1] t_iTerm), .blk b2 (.cells #[.int .i64 k', .int .i64 n', .string s', .slice (some ⟨c2, o2, none⟩) ks'.length cap2] t_iTerm), .blk mb (.map es' ck')] S w_)
      have hI1 := fun (_ : setD D 11 11 = true) => (⟨es2, ck2, hk2, hI⟩ : ∃ es2 ck2, KnownM S es2 r.2 ∧ Inv w X [.blk b1 (.cells #[.int .i64 k, .int .i64 n, .string s, .slice (some ⟨c1, o1, none⟩) ks.length cap1] t_iTerm), .blk b2 (.cells #[.int .i64 k', .int .i64 n', .string s', .slice (some ⟨c2, o2, none⟩) ks'.length cap2] t_iTerm), .blk mb (.map es2 ck2)] S w_)
      obtain ⟨es3, ck3, hI⟩ : ∃ es3 ck3, Inv w X [.blk b1 (.cells #[.int .i64 k, .int .i64 n, .string s, .slice (some ⟨c1, o1, none⟩) ks.length cap1] t_iTerm), .blk b2 (.cells #[.int .i64 k', .int .i64 n', .string s', .slice (some ⟨c2, o2, none⟩) ks'.length cap2] t_iTerm), .blk mb (.map es3 ck3)] S w_ := ⟨es2, ck2, hI⟩
      exact ⟨h0_, h1_, h2_, h3_, h4_, h5_, h6_, h7_, h8_, h9_, h10_, fun _ => rfl, h12_, ⟨hI0, hI1, es3, ck3, hI⟩⟩
    · intro D hD_ d11_0 x75 x74 x73 x72 x71 x70 x69 x68 x67 x66 x65 x64 x63 w_
      rintro ⟨h0_, h1_, h2_, h3_, h4_, h5_, h6_, h7_, h8_, h9_, h10_, h11_, h12_, ⟨hI0, hI1, es3, ck3, hI⟩⟩
      obtain rfl := h11_ d11_0
      refine r_not ?_
      exact ⟨h0_, h1_, h2_, h3_, h4_, h5_, h6_, h7_, h8_, h9_, h10_, h11_, fun _ => rfl, ⟨hI0, hI1, es3, ck3, hI⟩⟩
    intro D d12_ d11_ d10_ d9_ d8_ d7_ d6_ d5_ d4_ d3_ d2_ d1_ d0_ x75 x74 x73 x72 x71 x70 x69 x68 x67 x66 x65 x64 x63 w_
    rintro ⟨h0_, h1_, h2_, h3_, h4_, h5_, h6_, h7_, h8_, h9_, h10_, h11_, h12_, ⟨hI0, hI1, es3, ck3, hI⟩⟩
    obtain rfl := h12_ d12_
    obtain rfl := h11_ d11_
    obtain rfl := h10_ d10_
    obtain rfl := h9_ d9_
    obtain rfl := h8_ d8_
    obtain rfl := h7_ d7_
    obtain rfl := h6_ d6_
    obtain rfl := h5_ d5_
    obtain rfl := h4_ d4_
    obtain rfl := h3_ d3_
    obtain rfl := h2_ d2_
    obtain rfl := h1_ d1_
    obtain rfl := h0_ d0_
    clear h0_ h1_ h2_ h3_ h4_ h5_ h6_ h7_ h8_ h9_ h10_ h11_ h12_
    obtain ⟨es2, ck2, hk2, hI⟩ := hI1 d11_
    clear hI0 hI1
    refine condV (fun hne => ?_) (fun he' => ?_)
    · simp only [Bool.not_eq_true'] at hne
      rw [hne, if_neg (by decide)] at hrel
      rw [← hrel]
      exact ⟨_, _, _, rfl, hI.pick [false, false, true], Ext.refl _ _ _, rfl, rfl, _, _, rfl, hk2⟩
    · simp only [Bool.not_eq_false'] at he'
      rw [he', if_pos rfl] at hrel
      refine r_add (by omega) ?_
      exact ⟨⟨j + 1, r.2, es2, ck2, hj2, rfl, hrel, hsn, hk2, hI⟩, by simp [intOf]; omega⟩
  · have : j = ks'.length := by omega
    subst this
    rw [List.drop_length, ← hle, List.drop_length] at hrel
    rw [← hrel]
    exact ⟨_, _, _, rfl, hI.pick [false, false, true], Ext.refl _ _ _, rfl, rfl, _, _, rfl, hkc'⟩
end

end Go.Proofs.Ytgdibnmabnimaaa
