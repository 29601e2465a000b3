/- DropClause: both sides. -/
import Derived.Test.YtnoieadimkgjcaaDrop
namespace Go.Proofs.Ytnoieadimkgjcaa
open Go Go.RowKit
attribute [local irreducible] Run CondV GuardV LoadV

def dropB (p : List C) (i : Int) : Bool := progB p && (decide (0 ≤ i) && decide (i < p.length))
def dropPs (p : List C) (i : Int) : List C := if dropB p i = true then p.eraseIdx i.toNat else []
theorem dropB_iff {p : List C} {i : Int} (h : dropB p i = true) : ∃ j : Nat, i = j ∧ j < p.length := by
  simp only [dropB, Bool.and_eq_true, decide_eq_true_eq] at h
  exact ⟨i.toNat, by omega, by omega⟩
theorem erase_w : ∀ (p : List C) (j : Nat), (p.eraseIdx j).length + wP (p.eraseIdx j) ≤ p.length + wP p
  | [], j => by simp
  | c :: p, 0 => by simp [wP]; omega
  | c :: p, j + 1 => by
    have := erase_w p j
    simp only [List.eraseIdx_cons_succ, List.length_cons, wP]
    omega
theorem i_DropClause_calls {p : List C} {S : Store} {v : Value} (i : Int) (h : RdSl S 5 (RdC S) v p) (hw : p.length + wP p ≤ 1048576) : Tri Try.prog n_i_DropClause [v, .int .i64 i] [] S (PostCB S (dropPs p i) (dropB p i)) := by
  intro w hI
  refine calls_i_DropClause ?_
  unfold sh_i_DropClause
  refine ⟨fun t w' => t = .bool (!dropB p i) ∧ Inv w [] [] S w', ?_, ?_⟩
  · refine Run.callPure fn_i_ProgramValid nm_i_ProgramValid hI (iProgramValid_calls h) fun w' hI => ?_
    refine r_not ?_
    cases hv : progB p
    · repeat (first | refine guard_true ?_ | refine guard_ne (by decide) ?_ | refine guard_undef ?_ | refine r_pickT ?_ | refine r_pickF ?_)
      exact ⟨by rw [dropB, hv]; rfl, hI⟩
    · repeat (first | refine guard_true ?_ | refine guard_ne (by decide) ?_ | refine guard_undef ?_ | refine r_pickT ?_ | refine r_pickF ?_)
      refine r_lenSl h sl_SiClause ?_
      refine r_sub (by omega) ?_
      refine Run.callPure fn_i_within nm_i_within hI (within_calls _ _ _ S) fun w' hI => ?_
      refine r_not ?_
      repeat (first | refine guard_true ?_ | refine guard_ne (by decide) ?_ | refine guard_undef ?_ | refine r_pickT ?_ | refine r_pickF ?_)
      refine ⟨?_, hI⟩
      have e : decide (i ≤ (p.length : Int) - 1) = decide (i < (p.length : Int)) := by
        rw [Bool.eq_iff_iff]
        simp only [decide_eq_true_eq]
        omega
      rw [dropB, hv, e]; rfl
  intro t _ _ _ _ _ _ _ _ _ _ w'
  rintro ⟨rfl, hI⟩
  rw [dropPs]
  cases hd : dropB p i
  · refine condV (fun _ => ?_) (fun hb => by cases hb)
    rw [if_neg (by decide)]
    exact ⟨_, _, _, rfl, hI, Ext.refl _ _ _, rfl, _, [], rfl, rfl, TrSl.nil (by simp [maxLen])⟩
  refine condV (fun hb => by cases hb) (fun _ => ?_)
  rw [if_pos rfl]
  obtain ⟨j, rfl, hj⟩ := dropB_iff hd
  refine Run.call0 fn_i_ownProgram nm_i_ownProgram hI (ownProgram_calls h hw) fun v3 I' S' w' => ?_
  rintro ⟨rfl, L, rfl, hT⟩ _ hI
  refine r_add (by omega) ?_
  refine Run.call (A := []) fn_x_Delete_Clause nm_x_Delete_Clause hI (Delete_calls hT hj (by omega)) fun v4 I' S2 w' => ?_
  rintro ⟨rfl, L', rfl, hT'⟩ _ hI
  exact ⟨_, _, _, rfl, hI, Ext.refl _ _ _, rfl, _, L', rfl, rfl, hT'⟩
def dcItems (r0 r4 r9 : Item) (M : Heaplet) (d0 d4 d9 d10 : Bool) : List Item := match d10, d9, d4, d0 with
  | true, _, _, _ => blks M
  | false, true, _, _ => [r9]
  | false, false, true, _ => [r4]
  | false, false, false, true => [r0]
  | false, false, false, false => []
theorem s_DropClause_calls {p : List C} {S : Store} {v : Value} (i : Int) (h : RdSl S 5 (RdC S) v p) (hw : p.length + wP p ≤ 1048576) : Tri Try.prog n_s_DropClause [v, .int .i64 i] [] S (PostCB S (dropPs p i) (dropB p i)) := by
  intro w hI
  refine calls_s_DropClause ?_
  unfold sh_s_DropClause
  refine ⟨fun t w' => t = .bool (!dropB p i) ∧ Inv w [] [] S w', ?_, ?_⟩
  · refine Run.callPure fn_s_ProgramValid nm_s_ProgramValid hI (s_ProgramValid_calls h (by omega)) fun w' hI => ?_
    refine r_not ?_
    cases hv : progB p
    · repeat (first | refine guard_true ?_ | refine guard_ne (by decide) ?_ | refine guard_undef ?_ | refine r_pickT ?_ | refine r_pickF ?_)
      exact ⟨by rw [dropB, hv]; rfl, hI⟩
    · repeat (first | refine guard_true ?_ | refine guard_ne (by decide) ?_ | refine guard_undef ?_ | refine r_pickT ?_ | refine r_pickF ?_)
      refine r_lss ?_
      by_cases h0 : i < 0
      · rw [decide_eq_true h0]
        repeat (first | refine guard_true ?_ | refine guard_ne (by decide) ?_ | refine guard_undef ?_ | refine r_pickT ?_ | refine r_pickF ?_)
        exact ⟨by rw [dropB, hv, decide_eq_false (show ¬ 0 ≤ i by omega)]; rfl, hI⟩
      · rw [decide_eq_false h0]
        repeat (first | refine guard_true ?_ | refine guard_ne (by decide) ?_ | refine guard_undef ?_ | refine r_pickT ?_ | refine r_pickF ?_)
        refine r_lenSl h sl_SiClause ?_
        refine r_geq ?_
        repeat (first | refine guard_true ?_ | refine guard_ne (by decide) ?_ | refine guard_undef ?_ | refine r_pickT ?_ | refine r_pickF ?_)
        refine ⟨?_, hI⟩
        have e : decide ((p.length : Int) ≤ i) = !decide (i < (p.length : Int)) := by
          by_cases h1 : i < (p.length : Int)
          · rw [decide_eq_true h1, decide_eq_false (by omega)]; rfl
          · rw [decide_eq_false h1, decide_eq_true (by omega)]; rfl
        rw [dropB, hv, decide_eq_true (show 0 ≤ i by omega), e]; rfl
  intro t _ _ _ _ _ _ _ _ _ _ _ _ w'
  rintro ⟨rfl, hI⟩
  rw [dropPs]
  cases hd : dropB p i
  · refine condV (fun _ => ?_) (fun hb => by cases hb)
    refine r_slice0 hI mk_SiClause fun v0 w' hI => ?_
    rw [if_neg (by decide)]
    have hI : Inv w [] ([] ++ (rowG v0 t_iClause 5 [] :: blks ([] : List Heaplet).flatten)) S w' := hI
    obtain ⟨L, hT, hI⟩ := Inv.rowTree (R := TrC) hI (Grown.nil 5 TrC)
    exact ⟨_, _, _, rfl, hI, Ext.refl _ _ _, rfl, _, L, rfl, rfl, hT⟩
  refine condV (fun hb => by cases hb) (fun _ => ?_)
  rw [if_pos rfl]
  obtain ⟨j, rfl, hj⟩ := dropB_iff hd
  rw [Int.toNat_natCast]
  have hew := erase_w p j
  have hle := h.le
  simp only [maxLen] at hle
  refine ⟨fun D x5 x4 x30 x29 x28 x27 x26 x25 x24 x23 x22 x21 x20 w_ => (D 0 = true → True) ∧ (D 1 = true → x21 = v) ∧ (D 2 = true → x22 = .int .i64 j) ∧ (D 3 = true → True) ∧ (D 4 = true → True) ∧ (D 5 = true → x25 = v) ∧ (D 6 = true → x26 = .int .i64 j) ∧ (D 7 = true → x27 = .int .i64 ((j + 1 : Nat) : Int)) ∧ (D 8 = true → True) ∧ (D 9 = true → True) ∧ (D 10 = true → True) ∧ (D 11 = true → True) ∧ (D 12 = true → x5 = .bool true) ∧ ∃ c1 c2 M, (D 3 = true → RdSl S 5 (RdC S) x23 (p.take j)) ∧ (D 8 = true → RdSl S 5 (RdC S) x28 (p.drop (j + 1))) ∧ (D 4 = true → Rows 5 (RdC S) c1 (p.take j)) ∧ (D 9 = true → Rows 5 (RdC S) c2 (p.drop (j + 1))) ∧ (D 10 = true → TrSl 5 TrC M x30 (p.eraseIdx j)) ∧ (D 11 = true → x4 = x30) ∧ (D 4 = true → D 0 = true) ∧ (D 9 = true → D 4 = true) ∧ (D 10 = true → D 9 = true) ∧ (D 11 = true → D 10 = true) ∧ Inv w [] (dcItems (rowG x20 t_iClause 5 []) (rowG x24 t_iClause 5 c1) (rowG x29 t_iClause 5 (c1 ++ c2)) M (D 0) (D 4) (D 9) (D 10)) S w_, ⟨fun h => Bool.noConfusion h, fun h => Bool.noConfusion h, fun h => Bool.noConfusion h, fun h => Bool.noConfusion h, fun h => Bool.noConfusion h, fun h => Bool.noConfusion h, fun h => Bool.noConfusion h, fun h => Bool.noConfusion h, fun h => Bool.noConfusion h, fun h => Bool.noConfusion h, fun h => Bool.noConfusion h, fun h => Bool.noConfusion h, fun h => Bool.noConfusion h, ⟨[], [], [], fun h => Bool.noConfusion h, fun h => Bool.noConfusion h, fun h => Bool.noConfusion h, fun h => Bool.noConfusion h, fun h => Bool.noConfusion h, fun h => Bool.noConfusion h, fun h => Bool.noConfusion h, fun h => Bool.noConfusion h, fun h => Bool.noConfusion h, fun h => Bool.noConfusion h, hI.draw⟩⟩, ⟨?_, ?_, ?_, ?_, ?_, ?_, ?_, ?_, ?_, ?_, ?_, ?_, ?_, trivial⟩, ?_⟩
  · intro D hD_  x5 x4 x30 x29 x28 x27 x26 x25 x24 x23 x22 x21 x20 w_
    rintro ⟨h0_, h1_, h2_, h3_, h4_, h5_, h6_, h7_, h8_, h9_, h10_, h11_, h12_, ⟨c1, c2, M, e3, e8, e4, e9, e10, e11, k4, k9, k10, k11, hI⟩⟩
    have f4 : D 4 = false := Bool.eq_false_iff.2 fun h => by rw [k4 h] at hD_; cases hD_
    have f9 : D 9 = false := Bool.eq_false_iff.2 fun h => by rw [k9 h] at f4; cases f4
    have f10 : D 10 = false := Bool.eq_false_iff.2 fun h => by rw [k10 h] at f9; cases f9
    rw [hD_, f4, f9, f10] at hI
    refine r_slice0 hI mk_SiClause fun v0 w_ hI => ?_
    have k4 := fun (_ : setD D 0 4 = true) => (rfl : setD D 0 0 = true)
    have hI : Inv w [] (dcItems (rowG v0 t_iClause 5 []) (rowG x24 t_iClause 5 c1) (rowG x29 t_iClause 5 (c1 ++ c2)) M true (D 4) (D 9) (D 10)) S w_ := by
      rw [f4, f9, f10]
      exact hI
    exact ⟨fun _ => by first | assumption | trivial, h1_, h2_, h3_, h4_, h5_, h6_, h7_, h8_, h9_, h10_, h11_, h12_, ⟨c1, c2, M, e3, e8, e4, e9, e10, e11, k4, k9, k10, k11, hI⟩⟩
  · intro D hD_  x5 x4 x30 x29 x28 x27 x26 x25 x24 x23 x22 x21 x20 w_
    rintro ⟨h0_, h1_, h2_, h3_, h4_, h5_, h6_, h7_, h8_, h9_, h10_, h11_, h12_, ⟨c1, c2, M, e3, e8, e4, e9, e10, e11, k4, k9, k10, k11, hI⟩⟩
    exact ⟨h0_, fun _ => rfl, h2_, h3_, h4_, h5_, h6_, h7_, h8_, h9_, h10_, h11_, h12_, ⟨c1, c2, M, e3, e8, e4, e9, e10, e11, k4, k9, k10, k11, hI⟩⟩
  · intro D hD_  x5 x4 x30 x29 x28 x27 x26 x25 x24 x23 x22 x21 x20 w_
    rintro ⟨h0_, h1_, h2_, h3_, h4_, h5_, h6_, h7_, h8_, h9_, h10_, h11_, h12_, ⟨c1, c2, M, e3, e8, e4, e9, e10, e11, k4, k9, k10, k11, hI⟩⟩
    exact ⟨h0_, h1_, fun _ => rfl, h3_, h4_, h5_, h6_, h7_, h8_, h9_, h10_, h11_, h12_, ⟨c1, c2, M, e3, e8, e4, e9, e10, e11, k4, k9, k10, k11, hI⟩⟩
  · intro D hD_ d1_0 d2_1 x5 x4 x30 x29 x28 x27 x26 x25 x24 x23 x22 x21 x20 w_
    rintro ⟨h0_, h1_, h2_, h3_, h4_, h5_, h6_, h7_, h8_, h9_, h10_, h11_, h12_, ⟨c1, c2, M, e3, e8, e4, e9, e10, e11, k4, k9, k10, k11, hI⟩⟩
    obtain rfl := h1_ d1_0
    obtain rfl := h2_ d2_1
    refine r_sliceTo sl_SiClause h (by omega) fun v3 e3 => ?_
    have e3 := fun (_ : setD D 3 3 = true) => e3
    exact ⟨h0_, h1_, h2_, fun _ => by first | assumption | trivial, h4_, h5_, h6_, h7_, h8_, h9_, h10_, h11_, h12_, ⟨c1, c2, M, e3, e8, e4, e9, e10, e11, k4, k9, k10, k11, hI⟩⟩
  · intro D hD_ d0_0 d3_1 x5 x4 x30 x29 x28 x27 x26 x25 x24 x23 x22 x21 x20 w_
    rintro ⟨h0_, h1_, h2_, h3_, h4_, h5_, h6_, h7_, h8_, h9_, h10_, h11_, h12_, ⟨c1, c2, M, e3, e8, e4, e9, e10, e11, k4, k9, k10, k11, hI⟩⟩
    have g0_ := h0_ d0_0
    have g3_ := h3_ d3_1
    have f9 : D 9 = false := Bool.eq_false_iff.2 fun h => by rw [k9 h] at hD_; cases hD_
    have f10 : D 10 = false := Bool.eq_false_iff.2 fun h => by rw [k10 h] at f9; cases f9
    rw [d0_0, hD_, f9, f10] at hI
    refine r_appendRd hI 0 mk_SiClause (by omega) rfl (e3 d3_1) (fun _ _ => RdC.length) (fun _ _ => RdC.one) (by simp; omega) (by omega) fun v4 w_ c1 hR hI => ?_
    have e4 := fun (_ : setD D 4 4 = true) => hR
    have k4 := fun (_ : setD D 4 4 = true) => d0_0
    have k9 := fun (_ : setD D 4 9 = true) => (rfl : setD D 4 4 = true)
    have hI : Inv w [] (dcItems (rowG x20 t_iClause 5 []) (rowG v4 t_iClause 5 c1) (rowG x29 t_iClause 5 (c1 ++ c2)) M (D 0) true (D 9) (D 10)) S w_ := by
      rw [d0_0, f9, f10]
      exact hI
    exact ⟨h0_, h1_, h2_, h3_, fun _ => by first | assumption | trivial, h5_, h6_, h7_, h8_, h9_, h10_, h11_, h12_, ⟨c1, c2, M, e3, e8, e4, e9, e10, e11, k4, k9, k10, k11, hI⟩⟩
  · intro D hD_  x5 x4 x30 x29 x28 x27 x26 x25 x24 x23 x22 x21 x20 w_
    rintro ⟨h0_, h1_, h2_, h3_, h4_, h5_, h6_, h7_, h8_, h9_, h10_, h11_, h12_, ⟨c1, c2, M, e3, e8, e4, e9, e10, e11, k4, k9, k10, k11, hI⟩⟩
    exact ⟨h0_, h1_, h2_, h3_, h4_, fun _ => rfl, h6_, h7_, h8_, h9_, h10_, h11_, h12_, ⟨c1, c2, M, e3, e8, e4, e9, e10, e11, k4, k9, k10, k11, hI⟩⟩
  · intro D hD_  x5 x4 x30 x29 x28 x27 x26 x25 x24 x23 x22 x21 x20 w_
    rintro ⟨h0_, h1_, h2_, h3_, h4_, h5_, h6_, h7_, h8_, h9_, h10_, h11_, h12_, ⟨c1, c2, M, e3, e8, e4, e9, e10, e11, k4, k9, k10, k11, hI⟩⟩
    exact ⟨h0_, h1_, h2_, h3_, h4_, h5_, fun _ => rfl, h7_, h8_, h9_, h10_, h11_, h12_, ⟨c1, c2, M, e3, e8, e4, e9, e10, e11, k4, k9, k10, k11, hI⟩⟩
  · intro D hD_ d6_0 x5 x4 x30 x29 x28 x27 x26 x25 x24 x23 x22 x21 x20 w_
    rintro ⟨h0_, h1_, h2_, h3_, h4_, h5_, h6_, h7_, h8_, h9_, h10_, h11_, h12_, ⟨c1, c2, M, e3, e8, e4, e9, e10, e11, k4, k9, k10, k11, hI⟩⟩
    obtain rfl := h6_ d6_0
    refine r_add (by omega) ?_; rw [show ((j : Int) + 1) = ((j + 1 : Nat) : Int) by omega]
    exact ⟨h0_, h1_, h2_, h3_, h4_, h5_, h6_, fun _ => rfl, h8_, h9_, h10_, h11_, h12_, ⟨c1, c2, M, e3, e8, e4, e9, e10, e11, k4, k9, k10, k11, hI⟩⟩
  · intro D hD_ d5_0 d7_1 x5 x4 x30 x29 x28 x27 x26 x25 x24 x23 x22 x21 x20 w_
    rintro ⟨h0_, h1_, h2_, h3_, h4_, h5_, h6_, h7_, h8_, h9_, h10_, h11_, h12_, ⟨c1, c2, M, e3, e8, e4, e9, e10, e11, k4, k9, k10, k11, hI⟩⟩
    obtain rfl := h5_ d5_0
    obtain rfl := h7_ d7_1
    refine r_sliceFrom sl_SiClause h (by omega) fun v8 e8 => ?_
    have e8 := fun (_ : setD D 8 8 = true) => e8
    exact ⟨h0_, h1_, h2_, h3_, h4_, h5_, h6_, h7_, fun _ => by first | assumption | trivial, h9_, h10_, h11_, h12_, ⟨c1, c2, M, e3, e8, e4, e9, e10, e11, k4, k9, k10, k11, hI⟩⟩
  · intro D hD_ d4_0 d8_1 d4_2 x5 x4 x30 x29 x28 x27 x26 x25 x24 x23 x22 x21 x20 w_
    rintro ⟨h0_, h1_, h2_, h3_, h4_, h5_, h6_, h7_, h8_, h9_, h10_, h11_, h12_, ⟨c1, c2, M, e3, e8, e4, e9, e10, e11, k4, k9, k10, k11, hI⟩⟩
    have g4_ := h4_ d4_0
    have g8_ := h8_ d8_1
    have f10 : D 10 = false := Bool.eq_false_iff.2 fun h => by rw [k10 h] at hD_; cases hD_
    rw [d4_0, hD_, f10] at hI
    have hc1 := (e4 d4_0).hc
    refine r_appendRd hI 0 mk_SiClause (by omega) rfl (e8 d8_1) (fun _ _ => RdC.length) (fun _ _ => RdC.one) (by simp at hc1 ⊢; omega) (by omega) fun v9 w_ c2 hR hI => ?_
    have e9 := fun (_ : setD D 9 9 = true) => hR
    have k9 := fun (_ : setD D 9 9 = true) => d4_0
    have k10 := fun (_ : setD D 9 10 = true) => (rfl : setD D 9 9 = true)
    have hI : Inv w [] (dcItems (rowG x20 t_iClause 5 []) (rowG x24 t_iClause 5 c1) (rowG v9 t_iClause 5 (c1 ++ c2)) M (D 0) (D 4) true (D 10)) S w_ := by
      rw [d4_0, f10]
      exact hI
    exact ⟨h0_, h1_, h2_, h3_, h4_, h5_, h6_, h7_, h8_, fun _ => by first | assumption | trivial, h10_, h11_, h12_, ⟨c1, c2, M, e3, e8, e4, e9, e10, e11, k4, k9, k10, k11, hI⟩⟩
  · intro D hD_ d9_0 d9_1 x5 x4 x30 x29 x28 x27 x26 x25 x24 x23 x22 x21 x20 w_
    rintro ⟨h0_, h1_, h2_, h3_, h4_, h5_, h6_, h7_, h8_, h9_, h10_, h11_, h12_, ⟨c1, c2, M, e3, e8, e4, e9, e10, e11, k4, k9, k10, k11, hI⟩⟩
    have g9_ := h9_ d9_0
    rw [d9_0, hD_] at hI
    have f11 : D 11 = false := Bool.eq_false_iff.2 fun h => by rw [k11 h] at hD_; cases hD_
    have hR := (e4 (k9 d9_0)).append (e9 d9_0)
    rw [← List.eraseIdx_eq_take_drop_succ] at hR
    have hI : Inv w [] ([] ++ [rowG x29 t_iClause 5 (c1 ++ c2)]) S w_ := hI
    obtain ⟨S1, hle1, hrd, hI, _⟩ := hI.lend
    have hrr : RdSl S1 5 (RdC S1) x29 (p.eraseIdx j) := (RowRd.rows hR hrd).mono (Sle.refl _) fun _ _ h => h.mono hle1
    refine Run.call0 fn_s_l14Copy nm_s_l14Copy hI (l14Copy_calls hrr (by omega)) fun v10 I' S' w_ => ?_
    rintro ⟨rfl, M, rfl, hT⟩ _ hI
    have hI := hI.less hle1
    have e10 := fun (_ : setD D 10 10 = true) => hT
    have e11 : setD D 10 11 = true → x4 = v10 := fun h => absurd h (by rw [show setD D 10 11 = D 11 from rfl, f11]; decide)
    have k10 := fun (_ : setD D 10 10 = true) => d9_0
    have k11 := fun (_ : setD D 10 11 = true) => (rfl : setD D 10 10 = true)
    exact ⟨h0_, h1_, h2_, h3_, h4_, h5_, h6_, h7_, h8_, h9_, fun _ => by first | assumption | trivial, h11_, h12_, ⟨c1, c2, M, e3, e8, e4, e9, e10, e11, k4, k9, k10, k11, hI⟩⟩
  · intro D hD_ d10_0 d10_1 d0_2 d1_3 d2_4 d3_5 d4_6 d5_7 d6_8 d7_9 d8_10 d9_11 d10_12 x5 x4 x30 x29 x28 x27 x26 x25 x24 x23 x22 x21 x20 w_
    rintro ⟨h0_, h1_, h2_, h3_, h4_, h5_, h6_, h7_, h8_, h9_, h10_, h11_, h12_, ⟨c1, c2, M, e3, e8, e4, e9, e10, e11, k4, k9, k10, k11, hI⟩⟩
    have g10_ := h10_ d10_0
    have e11 := fun (_ : setD D 11 11 = true) => (rfl : x30 = x30)
    have k11 := fun (_ : setD D 11 11 = true) => d10_0
    exact ⟨h0_, h1_, h2_, h3_, h4_, h5_, h6_, h7_, h8_, h9_, h10_, fun _ => by first | assumption | trivial, h12_, ⟨c1, c2, M, e3, e8, e4, e9, e10, e11, k4, k9, k10, k11, hI⟩⟩
  · intro D hD_ d11_0 d0_1 d1_2 d2_3 d3_4 d4_5 d5_6 d6_7 d7_8 d8_9 d9_10 d10_11 d11_12 x5 x4 x30 x29 x28 x27 x26 x25 x24 x23 x22 x21 x20 w_
    rintro ⟨h0_, h1_, h2_, h3_, h4_, h5_, h6_, h7_, h8_, h9_, h10_, h11_, h12_, ⟨c1, c2, M, e3, e8, e4, e9, e10, e11, k4, k9, k10, k11, hI⟩⟩
    exact ⟨h0_, h1_, h2_, h3_, h4_, h5_, h6_, h7_, h8_, h9_, h10_, h11_, fun _ => rfl, ⟨c1, c2, M, e3, e8, e4, e9, e10, e11, k4, k9, k10, k11, hI⟩⟩
  intro D d12_ d11_ d10_ d9_ d8_ d7_ d6_ d5_ d4_ d3_ d2_ d1_ d0_ x5 x4 x30 x29 x28 x27 x26 x25 x24 x23 x22 x21 x20 w_
  rintro ⟨h0_, h1_, h2_, h3_, h4_, h5_, h6_, h7_, h8_, h9_, h10_, h11_, h12_, ⟨c1, c2, M, e3, e8, e4, e9, e10, e11, k4, k9, k10, k11, hI⟩⟩
  obtain rfl := h12_ d12_
  have g11_ := h11_ d11_
  have g10_ := h10_ d10_
  have g9_ := h9_ d9_
  have g8_ := h8_ d8_
  obtain rfl := h7_ d7_
  obtain rfl := h6_ d6_
  obtain rfl := h5_ d5_
  have g4_ := h4_ d4_
  have g3_ := h3_ d3_
  obtain rfl := h2_ d2_
  obtain rfl := h1_ d1_
  have g0_ := h0_ d0_
  clear h0_ h1_ h2_ h3_ h4_ h5_ h6_ h7_ h8_ h9_ h10_ h11_ h12_
  have hT := e10 d10_
  have q4 := e11 d11_
  subst q4
  rw [d10_] at hI
  exact ⟨_, _, _, rfl, hI, Ext.refl _ _ _, rfl, _, M, rfl, rfl, hT⟩

end Go.Proofs.Ytnoieadimkgjcaa
