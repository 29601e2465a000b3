/- What calls what, and what can be reached: both sides. -/
import Derived.Test.YtnoieadimkgjcaaAppend
namespace Go.Proofs.Ytnoieadimkgjcaa
open Go Go.RowKit
attribute [local irreducible] Run CondV GuardV LoadV

def addItems (B blk rA rB rC : Item) (d0 d2 d4 d5 : Bool) : List Item :=
  B :: ((match d4 with | true => [blk] | false => []) ++ (match d5, d2, d0 with | true, _, _ => [rC] | false, true, _ => [rB] | false, false, true => [rA] | false, false, false => []))
theorem l14Add_calls (x : Pd) (l : List Pd) (v : Value) (S : Store) (hl : l.length ≤ 1000000000) : Tri Try.prog n_s_l14Add [v, .agg x.cells.toArray] [rowP v l] S (PostP S (addP l x)) := by
  intro w hJ
  obtain ⟨xs, xn⟩ := x
  obtain ⟨X, hX⟩ : ∃ X, X = feet [rowP v l] := ⟨_, rfl⟩
  rw [← hX] at hJ ⊢
  refine calls_s_l14Add ?_
  unfold sh_s_l14Add
  refine r_box hJ fun b3 w' hJ => ?_
  have hJ := hJ.perm (M := [.blk b3 (.cells #[.string xs, .int .i64 xn] t_iPred), rowP v l]) (List.Perm.swap _ _ _)
  refine r_loadW hJ 0 ag_iPred rfl rfl ?_
  obtain ⟨S1, hle, hrd, hI, hback⟩ := Inv.lend (A := [_]) hJ
  have h := hrd.preds
  refine Run.callPure fn_s_l14Has nm_s_l14Has hI (l14Has_calls ⟨xs, xn⟩ h) fun w' hI => ?_
  refine condV (fun hb => ?_) (fun hb => ?_)
  · rw [addP, if_pos hb]
    exact ⟨_, _, _, rfl, Inv.pick (hback _ _ hI) [false, true], Ext.refl _ _ _, rfl, rfl⟩
  · rw [addP, if_neg (by rw [hb]; decide)]
    refine ⟨fun D x4 x14 x13 x12 x11 x10 x9 w_ => (D 0 = true → True) ∧ (D 1 = true → x10 = v) ∧ (D 2 = true → True) ∧ (D 3 = true → x12 = .agg #[.string xs, .int .i64 xn]) ∧ (D 4 = true → True) ∧ (D 5 = true → True) ∧ (D 6 = true → True) ∧ ∃ b13 : Nat, (D 4 = true → x13 = .slice (some ⟨b13, 0, none⟩) 1 1) ∧ (D 2 = true → D 0 = true) ∧ (D 5 = true → D 2 = true) ∧ (D 5 = true → D 4 = true) ∧ (D 6 = true → D 5 = true ∧ x4 = x14) ∧ Inv w X (addItems (.blk b3 (.cells #[.string xs, .int .i64 xn] t_iPred)) (.blk b13 (.cells #[.string xs, .int .i64 xn] t_iPred)) (rowP x9 []) (rowP x11 l) (rowP x14 (l ++ [⟨xs, xn⟩])) (D 0) (D 2) (D 4) (D 5)) S1 w_, ⟨fun h => Bool.noConfusion h, fun h => Bool.noConfusion h, fun h => Bool.noConfusion h, fun h => Bool.noConfusion h, fun h => Bool.noConfusion h, fun h => Bool.noConfusion h, fun h => Bool.noConfusion h, ⟨0, fun h => Bool.noConfusion h, fun h => Bool.noConfusion h, fun h => Bool.noConfusion h, fun h => Bool.noConfusion h, fun h => Bool.noConfusion h, hI.draw⟩⟩, ⟨?_, ?_, ?_, ?_, ?_, ?_, ?_, trivial⟩, ?_⟩
    · intro D hD_  x4 x14 x13 x12 x11 x10 x9 w_
      rintro ⟨h0_, h1_, h2_, h3_, h4_, h5_, h6_, ⟨b13, k4, k2, k5, k54, k6, hI⟩⟩
      have e2 : D 2 = false := Bool.eq_false_iff.2 fun h => by rw [k2 h] at hD_; cases hD_
      have e5 : D 5 = false := Bool.eq_false_iff.2 fun h => by rw [k5 h] at e2; cases e2
      refine r_slice0 hI mk_SiPred fun v9 w_ hI => ?_
      have k2 := fun (h : setD D 0 2 = true) => (show setD D 0 0 = true from rfl)
      have hI : Inv w X (addItems (.blk b3 (.cells #[.string xs, .int .i64 xn] t_iPred)) (.blk b13 (.cells #[.string xs, .int .i64 xn] t_iPred)) (rowP v9 []) (rowP x11 l) (rowP x14 (l ++ [⟨xs, xn⟩])) true (D 2) (D 4) (D 5)) S1 w_ := by
        rw [e2, e5] at hI ⊢
        rw [hD_] at hI
        cases h4 : D 4 <;> rw [h4] at hI <;> exact hI
      exact ⟨fun _ => by first | assumption | trivial, h1_, h2_, h3_, h4_, h5_, h6_, ⟨b13, k4, k2, k5, k54, k6, hI⟩⟩
    · intro D hD_  x4 x14 x13 x12 x11 x10 x9 w_
      rintro ⟨h0_, h1_, h2_, h3_, h4_, h5_, h6_, ⟨b13, k4, k2, k5, k54, k6, hI⟩⟩
      exact ⟨h0_, fun _ => rfl, h2_, h3_, h4_, h5_, h6_, ⟨b13, k4, k2, k5, k54, k6, hI⟩⟩
    · intro D hD_ d0_0 d1_1 x4 x14 x13 x12 x11 x10 x9 w_
      rintro ⟨h0_, h1_, h2_, h3_, h4_, h5_, h6_, ⟨b13, k4, k2, k5, k54, k6, hI⟩⟩
      have g0_ := h0_ d0_0
      obtain rfl := h1_ d1_1
      have e5 : D 5 = false := Bool.eq_false_iff.2 fun h => by rw [k5 h] at hD_; cases hD_
      have hI : Inv w X (addItems (.blk b3 (.cells #[.string xs, .int .i64 xn] t_iPred)) (.blk b13 (.cells #[.string xs, .int .i64 xn] t_iPred)) (rowP x9 []) (rowP x11 l) (rowP x14 (l ++ [⟨xs, xn⟩])) true false (D 4) false) S1 w_ := by
        rw [e5, hD_, d0_0] at hI
        exact hI
      have k2 := fun (h : setD D 2 2 = true) => (show setD D 2 0 = true from d0_0)
      have k5 := fun (h : setD D 2 5 = true) => (show setD D 2 2 = true from rfl)
      cases h4 : D 4
      · rw [h4] at hI
        refine r_appendSl (f := Pd.cells) hI 1 mk_SiPred (by omega) rfl h (fun _ _ h => h) (fun _ => rfl) (fun y c hc => by simp [Pd.cells] at hc; rcases hc with rfl | rfl <;> rfl) (by simp; omega) (by omega) fun v' w_ hI => ?_
        have hI : Inv w X (addItems (.blk b3 (.cells #[.string xs, .int .i64 xn] t_iPred)) (.blk b13 (.cells #[.string xs, .int .i64 xn] t_iPred)) (rowP x9 []) (rowP v' l) (rowP x14 (l ++ [⟨xs, xn⟩])) (D 0) true (D 4) (D 5)) S1 w_ := by
          rw [d0_0, h4, e5]
          have e : Item.row v' 59 2 (([] : List Pd).length + l.length) (pds [] ++ l.flatMap Pd.cells) = rowP v' l := by simp [rowP, pds]
          exact e ▸ hI
        exact ⟨h0_, h1_, fun _ => trivial, h3_, h4_, h5_, h6_, ⟨b13, k4, k2, k5, k54, k6, hI⟩⟩
      rw [h4] at hI
      refine r_appendSl (f := Pd.cells) hI 2 mk_SiPred (by omega) rfl h (fun _ _ h => h) (fun _ => rfl) (fun y c hc => by simp [Pd.cells] at hc; rcases hc with rfl | rfl <;> rfl) (by simp; omega) (by omega) fun v' w_ hI => ?_
      have hI : Inv w X (addItems (.blk b3 (.cells #[.string xs, .int .i64 xn] t_iPred)) (.blk b13 (.cells #[.string xs, .int .i64 xn] t_iPred)) (rowP x9 []) (rowP v' l) (rowP x14 (l ++ [⟨xs, xn⟩])) (D 0) true (D 4) (D 5)) S1 w_ := by
        rw [d0_0, h4, e5]
        have e : Item.row v' 59 2 (([] : List Pd).length + l.length) (pds [] ++ l.flatMap Pd.cells) = rowP v' l := by simp [rowP, pds]
        exact e ▸ hI
      exact ⟨h0_, h1_, fun _ => by first | assumption | trivial, h3_, h4_, h5_, h6_, ⟨b13, k4, k2, k5, k54, k6, hI⟩⟩
    · intro D hD_  x4 x14 x13 x12 x11 x10 x9 w_
      rintro ⟨h0_, h1_, h2_, h3_, h4_, h5_, h6_, ⟨b13, k4, k2, k5, k54, k6, hI⟩⟩
      refine r_loadW hI 0 ag_iPred rfl rfl ?_
      exact ⟨h0_, h1_, h2_, fun _ => rfl, h4_, h5_, h6_, ⟨b13, k4, k2, k5, k54, k6, hI⟩⟩
    · intro D hD_ d3_0 x4 x14 x13 x12 x11 x10 x9 w_
      rintro ⟨h0_, h1_, h2_, h3_, h4_, h5_, h6_, ⟨b13, k4, k2, k5, k54, k6, hI⟩⟩
      obtain rfl := h3_ d3_0
      have e5 : D 5 = false := Bool.eq_false_iff.2 fun h => by rw [k54 h] at hD_; cases hD_
      refine r_slice1 hI mk_SiPred rfl (by omega) (by omega) fun b13 w_ hI => ?_
      have k4 := fun (_ : setD D 4 4 = true) => (rfl : Value.slice (some ⟨b13, 0, none⟩) 1 1 = _)
      have k54 := fun (_ : setD D 4 5 = true) => (rfl : setD D 4 4 = true)
      have hI : Inv w X (addItems (.blk b3 (.cells #[.string xs, .int .i64 xn] t_iPred)) (.blk b13 (.cells #[.string xs, .int .i64 xn] t_iPred)) (rowP x9 []) (rowP x11 l) (rowP x14 (l ++ [⟨xs, xn⟩])) (D 0) (D 2) true (D 5)) S1 w_ := by
        rw [e5, hD_] at hI
        rw [e5]
        cases h0 : D 0 <;> cases h2 : D 2 <;> rw [h0, h2] at hI
        · exact hI
        · exact hI.perm ((List.Perm.swap _ _ _).cons _)
        · exact hI.perm ((List.Perm.swap _ _ _).cons _)
        · exact hI.perm ((List.Perm.swap _ _ _).cons _)
      exact ⟨h0_, h1_, h2_, h3_, fun _ => by first | assumption | trivial, h5_, h6_, ⟨b13, k4, k2, k5, k54, k6, hI⟩⟩
    · intro D hD_ d2_0 d4_1 d2_2 x4 x14 x13 x12 x11 x10 x9 w_
      rintro ⟨h0_, h1_, h2_, h3_, h4_, h5_, h6_, ⟨b13, k4, k2, k5, k54, k6, hI⟩⟩
      have g2_ := h2_ d2_0
      have g4_ := h4_ d4_1
      obtain rfl := k4 d4_1
      rw [d4_1, d2_0, hD_] at hI
      refine r_append hI 2 (k := 2) [.string xs, .int .i64 xn] mk_SiPred (by omega) rfl rfl ?_ ?_ (by omega) (by omega) fun v' w_ hI => ?_
      · intro j u hj
        rw [hI.cellL (i := 1) rfl]
        match j with
        | 0 | 1 => simpa [Value.cells] using hj
        | j + 2 => simp at hj
      · simp [Value.oneCell']
      have e : Item.row v' t_iPred 2 (l.length + 1) (pds l ++ [.string xs, .int .i64 xn]) = rowP v' (l ++ [⟨xs, xn⟩]) := by
        rw [show ([.string xs, .int .i64 xn] : List Value) = Pd.cells ⟨xs, xn⟩ from rfl, pds_snoc]; simp [rowP]
      have hI : Inv w X (addItems (.blk b3 (.cells #[.string xs, .int .i64 xn] t_iPred)) (.blk b13 (.cells #[.string xs, .int .i64 xn] t_iPred)) (rowP x9 []) (rowP x11 l) (rowP v' (l ++ [⟨xs, xn⟩])) (D 0) (D 2) (D 4) true) S1 w_ := by
        rw [d4_1]
        exact e ▸ hI
      have k5 := fun (_ : setD D 5 5 = true) => d2_0
      have k54 := fun (_ : setD D 5 5 = true) => d4_1
      have k6 : setD D 5 6 = true → setD D 5 5 = true ∧ x4 = v' := fun h => absurd (k6 h).1 (by rw [hD_]; decide)
      exact ⟨h0_, h1_, h2_, h3_, h4_, fun _ => by first | assumption | trivial, h6_, ⟨b13, k4, k2, k5, k54, k6, hI⟩⟩
    · intro D hD_ d5_0 d5_1 d0_2 d1_3 d2_4 d3_5 d4_6 d5_7 x4 x14 x13 x12 x11 x10 x9 w_
      rintro ⟨h0_, h1_, h2_, h3_, h4_, h5_, h6_, ⟨b13, k4, k2, k5, k54, k6, hI⟩⟩
      have g5_ := h5_ d5_0
      have k6 := fun (_ : setD D 6 6 = true) => (⟨d5_0, rfl⟩ : D 5 = true ∧ x14 = x14)
      exact ⟨h0_, h1_, h2_, h3_, h4_, h5_, fun _ => by first | assumption | trivial, ⟨b13, k4, k2, k5, k54, k6, hI⟩⟩
    intro D d6_ d5_ d4_ d3_ d2_ d1_ d0_ x4 x14 x13 x12 x11 x10 x9 w_
    rintro ⟨h0_, h1_, h2_, h3_, h4_, h5_, h6_, ⟨b13, k4, k2, k5, k54, k6, hI⟩⟩
    have g6_ := h6_ d6_
    have g5_ := h5_ d5_
    have g4_ := h4_ d4_
    obtain rfl := h3_ d3_
    have g2_ := h2_ d2_
    obtain rfl := h1_ d1_
    have g0_ := h0_ d0_
    clear h0_ h1_ h2_ h3_ h4_ h5_ h6_
    obtain ⟨_, rfl⟩ := k6 d6_
    rw [d5_, d4_] at hI
    exact ⟨_, _, _, rfl, (hI.less hle).pick [false, false, true], Ext.refl _ _ _, rfl, rfl⟩

end Go.Proofs.Ytnoieadimkgjcaa
