/- Which predicates can lead to themselves: both sides. -/
import Derived.Test.YtnoieadimkgjcaaReachB
namespace Go.Proofs.Ytnoieadimkgjcaa
open Go Go.RowKit
attribute [local irreducible] Run CondV GuardV LoadV

def recurB (p : List C) (x : Pd) : Bool := progB p && hasP (reachP p (callsP p x)) x
def recItems (B rA rB : Item) (d6 d7 : Bool) : List Item := B :: (match d7, d6 with | true, _ => [rB] | false, true => [rA] | false, false => [])
theorem s_RecursivePred_calls {p : List C} {S : Store} {v : Value} (x : Pd) (h : RdSl S 5 (RdC S) v p) (hw : p.length + wP p ≤ 1048576) : Pure Try.prog n_s_RecursivePred [v, .agg x.cells.toArray] S (.bool (recurB p x)) := by
  intro w hI
  have hg := gPs_le p
  have hcl := callsP_len p x
  obtain ⟨xs, xn⟩ := x
  refine calls_s_RecursivePred ?_
  unfold sh_s_RecursivePred
  refine r_box hI fun b3 w' hI => ?_
  have hI : Inv w [] [.blk b3 (.cells #[.string xs, .int .i64 xn] t_iPred)] S w' := hI
  cases hv : progB p
  · clear hg hcl
    refine ⟨fun D x4 x15 x14 x13 x12 x11 x10 x9 x8 x7 x6 x5 w_ => (D 0 = true → x5 = v) ∧ (D 1 = true → x6 = .bool false) ∧ (D 2 = true → x7 = .bool false) ∧ (D 3 = true → x8 = undef) ∧ (D 4 = true → x9 = undef) ∧ (D 5 = true → x10 = undef) ∧ (D 6 = true → x11 = undef) ∧ (D 7 = true → x12 = undef) ∧ (D 8 = true → x13 = undef) ∧ (D 9 = true → x14 = undef) ∧ (D 10 = true → x15 = .bool false) ∧ (D 11 = true → x4 = .bool false) ∧ Inv w [] [.blk b3 (.cells #[.string xs, .int .i64 xn] t_iPred)] S w_, ⟨fun h => Bool.noConfusion h, fun h => Bool.noConfusion h, fun h => Bool.noConfusion h, fun h => Bool.noConfusion h, fun h => Bool.noConfusion h, fun h => Bool.noConfusion h, fun h => Bool.noConfusion h, fun h => Bool.noConfusion h, fun h => Bool.noConfusion h, fun h => Bool.noConfusion h, fun h => Bool.noConfusion h, fun h => Bool.noConfusion h, hI.draw⟩, ⟨?_, ?_, ?_, ?_, ?_, ?_, ?_, ?_, ?_, ?_, ?_, ?_, trivial⟩, ?_⟩
    · intro D hD_  x4 x15 x14 x13 x12 x11 x10 x9 x8 x7 x6 x5 w_
      rintro ⟨h0_, h1_, h2_, h3_, h4_, h5_, h6_, h7_, h8_, h9_, h10_, h11_, hI⟩
      exact ⟨fun _ => rfl, h1_, h2_, h3_, h4_, h5_, h6_, h7_, h8_, h9_, h10_, h11_, hI⟩
    · intro D hD_ d0_0 x4 x15 x14 x13 x12 x11 x10 x9 x8 x7 x6 x5 w_
      rintro ⟨h0_, h1_, h2_, h3_, h4_, h5_, h6_, h7_, h8_, h9_, h10_, h11_, hI⟩
      obtain rfl := h0_ d0_0
      refine Run.callPure fn_s_ProgramValid nm_s_ProgramValid hI (s_ProgramValid_calls h (by omega)) fun w_ hI => ?_; rw [hv]
      exact ⟨h0_, fun _ => rfl, h2_, h3_, h4_, h5_, h6_, h7_, h8_, h9_, h10_, h11_, hI⟩
    · intro D hD_ d1_0 d1_1 x4 x15 x14 x13 x12 x11 x10 x9 x8 x7 x6 x5 w_
      rintro ⟨h0_, h1_, h2_, h3_, h4_, h5_, h6_, h7_, h8_, h9_, h10_, h11_, hI⟩
      obtain rfl := h1_ d1_0
      exact ⟨h0_, h1_, fun _ => rfl, h3_, h4_, h5_, h6_, h7_, h8_, h9_, h10_, h11_, hI⟩
    · intro D hD_ d2_0 x4 x15 x14 x13 x12 x11 x10 x9 x8 x7 x6 x5 w_
      rintro ⟨h0_, h1_, h2_, h3_, h4_, h5_, h6_, h7_, h8_, h9_, h10_, h11_, hI⟩
      obtain rfl := h2_ d2_0
      repeat (first | refine guard_true ?_ | refine guard_ne (by decide) ?_ | refine guard_undef ?_ | refine r_pickT ?_ | refine r_pickF ?_)
      exact ⟨h0_, h1_, h2_, fun _ => rfl, h4_, h5_, h6_, h7_, h8_, h9_, h10_, h11_, hI⟩
    · intro D hD_ d2_0 x4 x15 x14 x13 x12 x11 x10 x9 x8 x7 x6 x5 w_
      rintro ⟨h0_, h1_, h2_, h3_, h4_, h5_, h6_, h7_, h8_, h9_, h10_, h11_, hI⟩
      obtain rfl := h2_ d2_0
      repeat (first | refine guard_true ?_ | refine guard_ne (by decide) ?_ | refine guard_undef ?_ | refine r_pickT ?_ | refine r_pickF ?_)
      exact ⟨h0_, h1_, h2_, h3_, fun _ => rfl, h5_, h6_, h7_, h8_, h9_, h10_, h11_, hI⟩
    · intro D hD_ d2_0 x4 x15 x14 x13 x12 x11 x10 x9 x8 x7 x6 x5 w_
      rintro ⟨h0_, h1_, h2_, h3_, h4_, h5_, h6_, h7_, h8_, h9_, h10_, h11_, hI⟩
      obtain rfl := h2_ d2_0
      repeat (first | refine guard_true ?_ | refine guard_ne (by decide) ?_ | refine guard_undef ?_ | refine r_pickT ?_ | refine r_pickF ?_)
      exact ⟨h0_, h1_, h2_, h3_, h4_, fun _ => rfl, h6_, h7_, h8_, h9_, h10_, h11_, hI⟩
    · intro D hD_ d4_0 d5_1 d2_2 d2_3 x4 x15 x14 x13 x12 x11 x10 x9 x8 x7 x6 x5 w_
      rintro ⟨h0_, h1_, h2_, h3_, h4_, h5_, h6_, h7_, h8_, h9_, h10_, h11_, hI⟩
      obtain rfl := h4_ d4_0
      obtain rfl := h5_ d5_1
      obtain rfl := h2_ d2_2
      repeat (first | refine guard_true ?_ | refine guard_ne (by decide) ?_ | refine guard_undef ?_ | refine r_pickT ?_ | refine r_pickF ?_)
      exact ⟨h0_, h1_, h2_, h3_, h4_, h5_, fun _ => rfl, h7_, h8_, h9_, h10_, h11_, hI⟩
    · intro D hD_ d3_0 d6_1 d6_2 d2_3 x4 x15 x14 x13 x12 x11 x10 x9 x8 x7 x6 x5 w_
      rintro ⟨h0_, h1_, h2_, h3_, h4_, h5_, h6_, h7_, h8_, h9_, h10_, h11_, hI⟩
      obtain rfl := h3_ d3_0
      obtain rfl := h6_ d6_1
      obtain rfl := h2_ d2_3
      repeat (first | refine guard_true ?_ | refine guard_ne (by decide) ?_ | refine guard_undef ?_ | refine r_pickT ?_ | refine r_pickF ?_)
      exact ⟨h0_, h1_, h2_, h3_, h4_, h5_, h6_, fun _ => rfl, h8_, h9_, h10_, h11_, hI⟩
    · intro D hD_ d2_0 x4 x15 x14 x13 x12 x11 x10 x9 x8 x7 x6 x5 w_
      rintro ⟨h0_, h1_, h2_, h3_, h4_, h5_, h6_, h7_, h8_, h9_, h10_, h11_, hI⟩
      obtain rfl := h2_ d2_0
      repeat (first | refine guard_true ?_ | refine guard_ne (by decide) ?_ | refine guard_undef ?_ | refine r_pickT ?_ | refine r_pickF ?_)
      exact ⟨h0_, h1_, h2_, h3_, h4_, h5_, h6_, h7_, fun _ => rfl, h9_, h10_, h11_, hI⟩
    · intro D hD_ d7_0 d8_1 d7_2 d2_3 x4 x15 x14 x13 x12 x11 x10 x9 x8 x7 x6 x5 w_
      rintro ⟨h0_, h1_, h2_, h3_, h4_, h5_, h6_, h7_, h8_, h9_, h10_, h11_, hI⟩
      obtain rfl := h7_ d7_0
      obtain rfl := h8_ d8_1
      obtain rfl := h2_ d2_3
      repeat (first | refine guard_true ?_ | refine guard_ne (by decide) ?_ | refine guard_undef ?_ | refine r_pickT ?_ | refine r_pickF ?_)
      exact ⟨h0_, h1_, h2_, h3_, h4_, h5_, h6_, h7_, h8_, fun _ => rfl, h10_, h11_, hI⟩
    · intro D hD_ d2_0 d9_1 x4 x15 x14 x13 x12 x11 x10 x9 x8 x7 x6 x5 w_
      rintro ⟨h0_, h1_, h2_, h3_, h4_, h5_, h6_, h7_, h8_, h9_, h10_, h11_, hI⟩
      obtain rfl := h2_ d2_0
      obtain rfl := h9_ d9_1
      repeat (first | refine guard_true ?_ | refine guard_ne (by decide) ?_ | refine guard_undef ?_ | refine r_pickT ?_ | refine r_pickF ?_)
      exact ⟨h0_, h1_, h2_, h3_, h4_, h5_, h6_, h7_, h8_, h9_, fun _ => rfl, h11_, hI⟩
    · intro D hD_ d10_0 d9_1 d0_2 d1_3 d2_4 d3_5 d4_6 d5_7 d6_8 d7_9 d8_10 d9_11 d10_12 x4 x15 x14 x13 x12 x11 x10 x9 x8 x7 x6 x5 w_
      rintro ⟨h0_, h1_, h2_, h3_, h4_, h5_, h6_, h7_, h8_, h9_, h10_, h11_, hI⟩
      obtain rfl := h10_ d10_0
      exact ⟨h0_, h1_, h2_, h3_, h4_, h5_, h6_, h7_, h8_, h9_, h10_, fun _ => rfl, hI⟩
    intro D d11_ d10_ d9_ d8_ d7_ d6_ d5_ d4_ d3_ d2_ d1_ d0_ x4 x15 x14 x13 x12 x11 x10 x9 x8 x7 x6 x5 w_
    rintro ⟨h0_, h1_, h2_, h3_, h4_, h5_, h6_, h7_, h8_, h9_, h10_, h11_, hI⟩
    obtain rfl := h11_ d11_
    obtain rfl := h10_ d10_
    obtain rfl := h9_ d9_
    obtain rfl := h8_ d8_
    obtain rfl := h7_ d7_
    obtain rfl := h6_ d6_
    obtain rfl := h5_ d5_
    obtain rfl := h4_ d4_
    obtain rfl := h3_ d3_
    obtain rfl := h2_ d2_
    obtain rfl := h1_ d1_
    obtain rfl := h0_ d0_
    clear h0_ h1_ h2_ h3_ h4_ h5_ h6_ h7_ h8_ h9_ h10_ h11_
    exact done hI (by rw [recurB, hv]; rfl)
  · obtain ⟨cs, hcs⟩ : ∃ cs, cs = callsP p ⟨xs, xn⟩ := ⟨_, rfl⟩
    have hrs : ∀ u, Tri Try.prog n_s_l14Reach [v, u] [rowP u cs] S (PostP S (reachP p cs)) := fun u => s_l14Reach_calls cs h (by omega) (by omega) (by rw [hcs]; omega)
    have hcc := s_l14Calls_calls ⟨xs, xn⟩ h (by omega)
    rw [← hcs] at hcc
    refine ⟨fun D x4 x15 x14 x13 x12 x11 x10 x9 x8 x7 x6 x5 w_ => (D 0 = true → x5 = v) ∧ (D 1 = true → x6 = .bool true) ∧ (D 2 = true → x7 = .bool true) ∧ (D 3 = true → x8 = v) ∧ (D 4 = true → x9 = v) ∧ (D 5 = true → x10 = .agg #[.string xs, .int .i64 xn]) ∧ (D 6 = true → True) ∧ (D 7 = true → True) ∧ (D 8 = true → x13 = .agg #[.string xs, .int .i64 xn]) ∧ (D 9 = true → x14 = .bool (hasP (reachP p cs) ⟨xs, xn⟩)) ∧ (D 10 = true → x15 = .bool (hasP (reachP p cs) ⟨xs, xn⟩)) ∧ (D 11 = true → x4 = .bool (hasP (reachP p cs) ⟨xs, xn⟩)) ∧ (D 7 = true → D 6 = true) ∧ Inv w [] (recItems (.blk b3 (.cells #[.string xs, .int .i64 xn] t_iPred)) (rowP x11 cs) (rowP x12 (reachP p cs)) (D 6) (D 7)) S w_, ⟨fun h => Bool.noConfusion h, fun h => Bool.noConfusion h, fun h => Bool.noConfusion h, fun h => Bool.noConfusion h, fun h => Bool.noConfusion h, fun h => Bool.noConfusion h, fun h => Bool.noConfusion h, fun h => Bool.noConfusion h, fun h => Bool.noConfusion h, fun h => Bool.noConfusion h, fun h => Bool.noConfusion h, fun h => Bool.noConfusion h, ⟨fun h => Bool.noConfusion h, hI.draw⟩⟩, ⟨?_, ?_, ?_, ?_, ?_, ?_, ?_, ?_, ?_, ?_, ?_, ?_, trivial⟩, ?_⟩
    · intro D hD_  x4 x15 x14 x13 x12 x11 x10 x9 x8 x7 x6 x5 w_
      rintro ⟨h0_, h1_, h2_, h3_, h4_, h5_, h6_, h7_, h8_, h9_, h10_, h11_, ⟨k7, hI⟩⟩
      exact ⟨fun _ => rfl, h1_, h2_, h3_, h4_, h5_, h6_, h7_, h8_, h9_, h10_, h11_, ⟨k7, hI⟩⟩
    · intro D hD_ d0_0 x4 x15 x14 x13 x12 x11 x10 x9 x8 x7 x6 x5 w_
      rintro ⟨h0_, h1_, h2_, h3_, h4_, h5_, h6_, h7_, h8_, h9_, h10_, h11_, ⟨k7, hI⟩⟩
      obtain rfl := h0_ d0_0
      refine Run.callPure fn_s_ProgramValid nm_s_ProgramValid hI (s_ProgramValid_calls h (by omega)) fun w_ hI => ?_; rw [hv]
      exact ⟨h0_, fun _ => rfl, h2_, h3_, h4_, h5_, h6_, h7_, h8_, h9_, h10_, h11_, ⟨k7, hI⟩⟩
    · intro D hD_ d1_0 d1_1 x4 x15 x14 x13 x12 x11 x10 x9 x8 x7 x6 x5 w_
      rintro ⟨h0_, h1_, h2_, h3_, h4_, h5_, h6_, h7_, h8_, h9_, h10_, h11_, ⟨k7, hI⟩⟩
      obtain rfl := h1_ d1_0
      exact ⟨h0_, h1_, fun _ => rfl, h3_, h4_, h5_, h6_, h7_, h8_, h9_, h10_, h11_, ⟨k7, hI⟩⟩
    · intro D hD_ d2_0 x4 x15 x14 x13 x12 x11 x10 x9 x8 x7 x6 x5 w_
      rintro ⟨h0_, h1_, h2_, h3_, h4_, h5_, h6_, h7_, h8_, h9_, h10_, h11_, ⟨k7, hI⟩⟩
      obtain rfl := h2_ d2_0
      repeat (first | refine guard_true ?_ | refine guard_ne (by decide) ?_ | refine guard_undef ?_ | refine r_pickT ?_ | refine r_pickF ?_)
      exact ⟨h0_, h1_, h2_, fun _ => rfl, h4_, h5_, h6_, h7_, h8_, h9_, h10_, h11_, ⟨k7, hI⟩⟩
    · intro D hD_ d2_0 x4 x15 x14 x13 x12 x11 x10 x9 x8 x7 x6 x5 w_
      rintro ⟨h0_, h1_, h2_, h3_, h4_, h5_, h6_, h7_, h8_, h9_, h10_, h11_, ⟨k7, hI⟩⟩
      obtain rfl := h2_ d2_0
      repeat (first | refine guard_true ?_ | refine guard_ne (by decide) ?_ | refine guard_undef ?_ | refine r_pickT ?_ | refine r_pickF ?_)
      exact ⟨h0_, h1_, h2_, h3_, fun _ => rfl, h5_, h6_, h7_, h8_, h9_, h10_, h11_, ⟨k7, hI⟩⟩
    · intro D hD_ d2_0 x4 x15 x14 x13 x12 x11 x10 x9 x8 x7 x6 x5 w_
      rintro ⟨h0_, h1_, h2_, h3_, h4_, h5_, h6_, h7_, h8_, h9_, h10_, h11_, ⟨k7, hI⟩⟩
      obtain rfl := h2_ d2_0
      repeat (first | refine guard_true ?_ | refine guard_ne (by decide) ?_ | refine guard_undef ?_ | refine r_pickT ?_ | refine r_pickF ?_)
      refine r_loadW hI 0 ag_iPred rfl rfl ?_
      exact ⟨h0_, h1_, h2_, h3_, h4_, fun _ => rfl, h6_, h7_, h8_, h9_, h10_, h11_, ⟨k7, hI⟩⟩
    · intro D hD_ d4_0 d5_1 d2_2 d2_3 x4 x15 x14 x13 x12 x11 x10 x9 x8 x7 x6 x5 w_
      rintro ⟨h0_, h1_, h2_, h3_, h4_, h5_, h6_, h7_, h8_, h9_, h10_, h11_, ⟨k7, hI⟩⟩
      obtain rfl := h4_ d4_0
      obtain rfl := h5_ d5_1
      obtain rfl := h2_ d2_2
      repeat (first | refine guard_true ?_ | refine guard_ne (by decide) ?_ | refine guard_undef ?_ | refine r_pickT ?_ | refine r_pickF ?_)
      have e7 : D 7 = false := Bool.eq_false_iff.2 fun h => by rw [k7 h] at hD_; cases hD_
      rw [hD_, e7] at hI
      refine Run.call0 fn_s_l14Calls nm_s_l14Calls hI hcc fun u I' S2 w_ => ?_
      rintro ⟨rfl, rfl⟩ _ hI
      have k7 := fun (_ : setD D 6 7 = true) => (rfl : setD D 6 6 = true)
      have hI : Inv w [] (recItems (.blk b3 (.cells #[.string xs, .int .i64 xn] t_iPred)) (rowP u cs) (rowP x12 (reachP p cs)) (setD D 6 6) (setD D 6 7)) S2 w_ := by
        rw [show setD D 6 7 = false from e7]
        exact hI
      exact ⟨h0_, h1_, h2_, h3_, h4_, h5_, fun _ => by first | assumption | trivial, h7_, h8_, h9_, h10_, h11_, ⟨k7, hI⟩⟩
    · intro D hD_ d3_0 d6_1 d6_2 d2_3 x4 x15 x14 x13 x12 x11 x10 x9 x8 x7 x6 x5 w_
      rintro ⟨h0_, h1_, h2_, h3_, h4_, h5_, h6_, h7_, h8_, h9_, h10_, h11_, ⟨k7, hI⟩⟩
      obtain rfl := h3_ d3_0
      have g6_ := h6_ d6_1
      obtain rfl := h2_ d2_3
      repeat (first | refine guard_true ?_ | refine guard_ne (by decide) ?_ | refine guard_undef ?_ | refine r_pickT ?_ | refine r_pickF ?_)
      rw [d6_1, hD_] at hI
      refine Run.call (A := [_]) fn_s_l14Reach nm_s_l14Reach hI (hrs x11) fun u I' S2 w_ => ?_
      rintro ⟨rfl, rfl⟩ _ hI
      have k7 := fun (_ : setD D 7 7 = true) => (d6_1 : setD D 7 6 = true)
      exact ⟨h0_, h1_, h2_, h3_, h4_, h5_, h6_, fun _ => by first | assumption | trivial, h8_, h9_, h10_, h11_, ⟨k7, hI⟩⟩
    · intro D hD_ d2_0 x4 x15 x14 x13 x12 x11 x10 x9 x8 x7 x6 x5 w_
      rintro ⟨h0_, h1_, h2_, h3_, h4_, h5_, h6_, h7_, h8_, h9_, h10_, h11_, ⟨k7, hI⟩⟩
      obtain rfl := h2_ d2_0
      repeat (first | refine guard_true ?_ | refine guard_ne (by decide) ?_ | refine guard_undef ?_ | refine r_pickT ?_ | refine r_pickF ?_)
      refine r_loadW hI 0 ag_iPred rfl rfl ?_
      exact ⟨h0_, h1_, h2_, h3_, h4_, h5_, h6_, h7_, fun _ => rfl, h9_, h10_, h11_, ⟨k7, hI⟩⟩
    · intro D hD_ d7_0 d8_1 d7_2 d2_3 x4 x15 x14 x13 x12 x11 x10 x9 x8 x7 x6 x5 w_
      rintro ⟨h0_, h1_, h2_, h3_, h4_, h5_, h6_, h7_, h8_, h9_, h10_, h11_, ⟨k7, hI⟩⟩
      have g7_ := h7_ d7_0
      obtain rfl := h8_ d8_1
      obtain rfl := h2_ d2_3
      repeat (first | refine guard_true ?_ | refine guard_ne (by decide) ?_ | refine guard_undef ?_ | refine r_pickT ?_ | refine r_pickF ?_)
      have hI : Inv w [] ([.blk b3 (.cells #[.string xs, .int .i64 xn] t_iPred)] ++ [rowP x12 (reachP p cs)]) S w_ := by
        rw [d7_0] at hI; exact hI
      obtain ⟨S1, hle, hrd, hI, hback⟩ := hI.lend
      refine Run.callPure fn_s_l14Has nm_s_l14Has hI (l14Has_calls ⟨xs, xn⟩ hrd.preds) fun w_ hI => ?_
      have hI := hback _ _ hI
      have hI : Inv w [] (recItems (.blk b3 (.cells #[.string xs, .int .i64 xn] t_iPred)) (rowP x11 cs) (rowP x12 (reachP p cs)) (D 6) (D 7)) S w_ := by
        rw [d7_0]; exact hI
      exact ⟨h0_, h1_, h2_, h3_, h4_, h5_, h6_, h7_, h8_, fun _ => rfl, h10_, h11_, ⟨k7, hI⟩⟩
    · intro D hD_ d2_0 d9_1 x4 x15 x14 x13 x12 x11 x10 x9 x8 x7 x6 x5 w_
      rintro ⟨h0_, h1_, h2_, h3_, h4_, h5_, h6_, h7_, h8_, h9_, h10_, h11_, ⟨k7, hI⟩⟩
      obtain rfl := h2_ d2_0
      obtain rfl := h9_ d9_1
      refine r_pickT ?_
      exact ⟨h0_, h1_, h2_, h3_, h4_, h5_, h6_, h7_, h8_, h9_, fun _ => rfl, h11_, ⟨k7, hI⟩⟩
    · intro D hD_ d10_0 d9_1 d0_2 d1_3 d2_4 d3_5 d4_6 d5_7 d6_8 d7_9 d8_10 d9_11 d10_12 x4 x15 x14 x13 x12 x11 x10 x9 x8 x7 x6 x5 w_
      rintro ⟨h0_, h1_, h2_, h3_, h4_, h5_, h6_, h7_, h8_, h9_, h10_, h11_, ⟨k7, hI⟩⟩
      obtain rfl := h10_ d10_0
      exact ⟨h0_, h1_, h2_, h3_, h4_, h5_, h6_, h7_, h8_, h9_, h10_, fun _ => rfl, ⟨k7, hI⟩⟩
    intro D d11_ d10_ d9_ d8_ d7_ d6_ d5_ d4_ d3_ d2_ d1_ d0_ x4 x15 x14 x13 x12 x11 x10 x9 x8 x7 x6 x5 w_
    rintro ⟨h0_, h1_, h2_, h3_, h4_, h5_, h6_, h7_, h8_, h9_, h10_, h11_, ⟨k7, hI⟩⟩
    obtain rfl := h11_ d11_
    obtain rfl := h10_ d10_
    obtain rfl := h9_ d9_
    obtain rfl := h8_ d8_
    have g7_ := h7_ d7_
    have g6_ := h6_ d6_
    obtain rfl := h5_ d5_
    obtain rfl := h4_ d4_
    obtain rfl := h3_ d3_
    obtain rfl := h2_ d2_
    obtain rfl := h1_ d1_
    obtain rfl := h0_ d0_
    clear h0_ h1_ h2_ h3_ h4_ h5_ h6_ h7_ h8_ h9_ h10_ h11_
    exact done hI (by rw [recurB, hv, hcs]; rfl)
theorem i_RecursivePred_calls {p : List C} {S : Store} {v : Value} (x : Pd) (h : RdSl S 5 (RdC S) v p) (hw : p.length + wP p ≤ 1048576) : Pure Try.prog n_i_RecursivePred [v, .agg x.cells.toArray] S (.bool (recurB p x)) := by
  intro w hI
  have hg := gPs_le p
  have hcl := callsP_len p x
  obtain ⟨xs, xn⟩ := x
  refine calls_i_RecursivePred ?_
  unfold sh_i_RecursivePred
  refine r_box hI fun b3 w' hI => ?_
  have hI : Inv w [] [.blk b3 (.cells #[.string xs, .int .i64 xn] t_iPred)] S w' := hI
  cases hv : progB p
  · clear hg hcl
    refine ⟨fun D x4 x15 x14 x13 x12 x11 x10 x9 x8 x7 x6 x5 w_ => (D 0 = true → x5 = v) ∧ (D 1 = true → x6 = .bool false) ∧ (D 2 = true → x7 = .bool false) ∧ (D 3 = true → x8 = undef) ∧ (D 4 = true → x9 = undef) ∧ (D 5 = true → x10 = undef) ∧ (D 6 = true → x11 = undef) ∧ (D 7 = true → x12 = undef) ∧ (D 8 = true → x13 = undef) ∧ (D 9 = true → x14 = undef) ∧ (D 10 = true → x15 = .bool false) ∧ (D 11 = true → x4 = .bool false) ∧ Inv w [] [.blk b3 (.cells #[.string xs, .int .i64 xn] t_iPred)] S w_, ⟨fun h => Bool.noConfusion h, fun h => Bool.noConfusion h, fun h => Bool.noConfusion h, fun h => Bool.noConfusion h, fun h => Bool.noConfusion h, fun h => Bool.noConfusion h, fun h => Bool.noConfusion h, fun h => Bool.noConfusion h, fun h => Bool.noConfusion h, fun h => Bool.noConfusion h, fun h => Bool.noConfusion h, fun h => Bool.noConfusion h, hI.draw⟩, ⟨?_, ?_, ?_, ?_, ?_, ?_, ?_, ?_, ?_, ?_, ?_, ?_, trivial⟩, ?_⟩
    · intro D hD_  x4 x15 x14 x13 x12 x11 x10 x9 x8 x7 x6 x5 w_
      rintro ⟨h0_, h1_, h2_, h3_, h4_, h5_, h6_, h7_, h8_, h9_, h10_, h11_, hI⟩
      exact ⟨fun _ => rfl, h1_, h2_, h3_, h4_, h5_, h6_, h7_, h8_, h9_, h10_, h11_, hI⟩
    · intro D hD_ d0_0 x4 x15 x14 x13 x12 x11 x10 x9 x8 x7 x6 x5 w_
      rintro ⟨h0_, h1_, h2_, h3_, h4_, h5_, h6_, h7_, h8_, h9_, h10_, h11_, hI⟩
      obtain rfl := h0_ d0_0
      refine Run.callPure fn_i_ProgramValid nm_i_ProgramValid hI (iProgramValid_calls h) fun w_ hI => ?_; rw [hv]
      exact ⟨h0_, fun _ => rfl, h2_, h3_, h4_, h5_, h6_, h7_, h8_, h9_, h10_, h11_, hI⟩
    · intro D hD_ d1_0 d1_1 x4 x15 x14 x13 x12 x11 x10 x9 x8 x7 x6 x5 w_
      rintro ⟨h0_, h1_, h2_, h3_, h4_, h5_, h6_, h7_, h8_, h9_, h10_, h11_, hI⟩
      obtain rfl := h1_ d1_0
      exact ⟨h0_, h1_, fun _ => rfl, h3_, h4_, h5_, h6_, h7_, h8_, h9_, h10_, h11_, hI⟩
    · intro D hD_ d2_0 x4 x15 x14 x13 x12 x11 x10 x9 x8 x7 x6 x5 w_
      rintro ⟨h0_, h1_, h2_, h3_, h4_, h5_, h6_, h7_, h8_, h9_, h10_, h11_, hI⟩
      obtain rfl := h2_ d2_0
      repeat (first | refine guard_true ?_ | refine guard_ne (by decide) ?_ | refine guard_undef ?_ | refine r_pickT ?_ | refine r_pickF ?_)
      exact ⟨h0_, h1_, h2_, fun _ => rfl, h4_, h5_, h6_, h7_, h8_, h9_, h10_, h11_, hI⟩
    · intro D hD_ d2_0 x4 x15 x14 x13 x12 x11 x10 x9 x8 x7 x6 x5 w_
      rintro ⟨h0_, h1_, h2_, h3_, h4_, h5_, h6_, h7_, h8_, h9_, h10_, h11_, hI⟩
      obtain rfl := h2_ d2_0
      repeat (first | refine guard_true ?_ | refine guard_ne (by decide) ?_ | refine guard_undef ?_ | refine r_pickT ?_ | refine r_pickF ?_)
      exact ⟨h0_, h1_, h2_, h3_, fun _ => rfl, h5_, h6_, h7_, h8_, h9_, h10_, h11_, hI⟩
    · intro D hD_ d2_0 x4 x15 x14 x13 x12 x11 x10 x9 x8 x7 x6 x5 w_
      rintro ⟨h0_, h1_, h2_, h3_, h4_, h5_, h6_, h7_, h8_, h9_, h10_, h11_, hI⟩
      obtain rfl := h2_ d2_0
      repeat (first | refine guard_true ?_ | refine guard_ne (by decide) ?_ | refine guard_undef ?_ | refine r_pickT ?_ | refine r_pickF ?_)
      exact ⟨h0_, h1_, h2_, h3_, h4_, fun _ => rfl, h6_, h7_, h8_, h9_, h10_, h11_, hI⟩
    · intro D hD_ d4_0 d5_1 d2_2 d2_3 x4 x15 x14 x13 x12 x11 x10 x9 x8 x7 x6 x5 w_
      rintro ⟨h0_, h1_, h2_, h3_, h4_, h5_, h6_, h7_, h8_, h9_, h10_, h11_, hI⟩
      obtain rfl := h4_ d4_0
      obtain rfl := h5_ d5_1
      obtain rfl := h2_ d2_2
      repeat (first | refine guard_true ?_ | refine guard_ne (by decide) ?_ | refine guard_undef ?_ | refine r_pickT ?_ | refine r_pickF ?_)
      exact ⟨h0_, h1_, h2_, h3_, h4_, h5_, fun _ => rfl, h7_, h8_, h9_, h10_, h11_, hI⟩
    · intro D hD_ d3_0 d6_1 d6_2 d2_3 x4 x15 x14 x13 x12 x11 x10 x9 x8 x7 x6 x5 w_
      rintro ⟨h0_, h1_, h2_, h3_, h4_, h5_, h6_, h7_, h8_, h9_, h10_, h11_, hI⟩
      obtain rfl := h3_ d3_0
      obtain rfl := h6_ d6_1
      obtain rfl := h2_ d2_3
      repeat (first | refine guard_true ?_ | refine guard_ne (by decide) ?_ | refine guard_undef ?_ | refine r_pickT ?_ | refine r_pickF ?_)
      exact ⟨h0_, h1_, h2_, h3_, h4_, h5_, h6_, fun _ => rfl, h8_, h9_, h10_, h11_, hI⟩
    · intro D hD_ d2_0 x4 x15 x14 x13 x12 x11 x10 x9 x8 x7 x6 x5 w_
      rintro ⟨h0_, h1_, h2_, h3_, h4_, h5_, h6_, h7_, h8_, h9_, h10_, h11_, hI⟩
      obtain rfl := h2_ d2_0
      repeat (first | refine guard_true ?_ | refine guard_ne (by decide) ?_ | refine guard_undef ?_ | refine r_pickT ?_ | refine r_pickF ?_)
      exact ⟨h0_, h1_, h2_, h3_, h4_, h5_, h6_, h7_, fun _ => rfl, h9_, h10_, h11_, hI⟩
    · intro D hD_ d7_0 d8_1 d7_2 d2_3 x4 x15 x14 x13 x12 x11 x10 x9 x8 x7 x6 x5 w_
      rintro ⟨h0_, h1_, h2_, h3_, h4_, h5_, h6_, h7_, h8_, h9_, h10_, h11_, hI⟩
      obtain rfl := h7_ d7_0
      obtain rfl := h8_ d8_1
      obtain rfl := h2_ d2_3
      repeat (first | refine guard_true ?_ | refine guard_ne (by decide) ?_ | refine guard_undef ?_ | refine r_pickT ?_ | refine r_pickF ?_)
      exact ⟨h0_, h1_, h2_, h3_, h4_, h5_, h6_, h7_, h8_, fun _ => rfl, h10_, h11_, hI⟩
    · intro D hD_ d2_0 d9_1 x4 x15 x14 x13 x12 x11 x10 x9 x8 x7 x6 x5 w_
      rintro ⟨h0_, h1_, h2_, h3_, h4_, h5_, h6_, h7_, h8_, h9_, h10_, h11_, hI⟩
      obtain rfl := h2_ d2_0
      obtain rfl := h9_ d9_1
      repeat (first | refine guard_true ?_ | refine guard_ne (by decide) ?_ | refine guard_undef ?_ | refine r_pickT ?_ | refine r_pickF ?_)
      exact ⟨h0_, h1_, h2_, h3_, h4_, h5_, h6_, h7_, h8_, h9_, fun _ => rfl, h11_, hI⟩
    · intro D hD_ d10_0 d9_1 d0_2 d1_3 d2_4 d3_5 d4_6 d5_7 d6_8 d7_9 d8_10 d9_11 d10_12 x4 x15 x14 x13 x12 x11 x10 x9 x8 x7 x6 x5 w_
      rintro ⟨h0_, h1_, h2_, h3_, h4_, h5_, h6_, h7_, h8_, h9_, h10_, h11_, hI⟩
      obtain rfl := h10_ d10_0
      exact ⟨h0_, h1_, h2_, h3_, h4_, h5_, h6_, h7_, h8_, h9_, h10_, fun _ => rfl, hI⟩
    intro D d11_ d10_ d9_ d8_ d7_ d6_ d5_ d4_ d3_ d2_ d1_ d0_ x4 x15 x14 x13 x12 x11 x10 x9 x8 x7 x6 x5 w_
    rintro ⟨h0_, h1_, h2_, h3_, h4_, h5_, h6_, h7_, h8_, h9_, h10_, h11_, hI⟩
    obtain rfl := h11_ d11_
    obtain rfl := h10_ d10_
    obtain rfl := h9_ d9_
    obtain rfl := h8_ d8_
    obtain rfl := h7_ d7_
    obtain rfl := h6_ d6_
    obtain rfl := h5_ d5_
    obtain rfl := h4_ d4_
    obtain rfl := h3_ d3_
    obtain rfl := h2_ d2_
    obtain rfl := h1_ d1_
    obtain rfl := h0_ d0_
    clear h0_ h1_ h2_ h3_ h4_ h5_ h6_ h7_ h8_ h9_ h10_ h11_
    exact done hI (by rw [recurB, hv]; rfl)
  · obtain ⟨cs, hcs⟩ : ∃ cs, cs = callsP p ⟨xs, xn⟩ := ⟨_, rfl⟩
    have hrs : ∀ u, Tri Try.prog n_i_reach [v, u] [rowP u cs] S (PostP S (reachP p cs)) := fun u => i_reach_calls cs h (by omega) (by omega) (by rw [hcs]; omega)
    have hcc := i_callsOf_calls ⟨xs, xn⟩ h (by omega) (by omega)
    rw [← hcs] at hcc
    refine ⟨fun D x4 x15 x14 x13 x12 x11 x10 x9 x8 x7 x6 x5 w_ => (D 0 = true → x5 = v) ∧ (D 1 = true → x6 = .bool true) ∧ (D 2 = true → x7 = .bool true) ∧ (D 3 = true → x8 = v) ∧ (D 4 = true → x9 = v) ∧ (D 5 = true → x10 = .agg #[.string xs, .int .i64 xn]) ∧ (D 6 = true → True) ∧ (D 7 = true → True) ∧ (D 8 = true → x13 = .agg #[.string xs, .int .i64 xn]) ∧ (D 9 = true → x14 = .bool (hasP (reachP p cs) ⟨xs, xn⟩)) ∧ (D 10 = true → x15 = .bool (hasP (reachP p cs) ⟨xs, xn⟩)) ∧ (D 11 = true → x4 = .bool (hasP (reachP p cs) ⟨xs, xn⟩)) ∧ (D 7 = true → D 6 = true) ∧ Inv w [] (recItems (.blk b3 (.cells #[.string xs, .int .i64 xn] t_iPred)) (rowP x11 cs) (rowP x12 (reachP p cs)) (D 6) (D 7)) S w_, ⟨fun h => Bool.noConfusion h, fun h => Bool.noConfusion h, fun h => Bool.noConfusion h, fun h => Bool.noConfusion h, fun h => Bool.noConfusion h, fun h => Bool.noConfusion h, fun h => Bool.noConfusion h, fun h => Bool.noConfusion h, fun h => Bool.noConfusion h, fun h => Bool.noConfusion h, fun h => Bool.noConfusion h, fun h => Bool.noConfusion h, ⟨fun h => Bool.noConfusion h, hI.draw⟩⟩, ⟨?_, ?_, ?_, ?_, ?_, ?_, ?_, ?_, ?_, ?_, ?_, ?_, trivial⟩, ?_⟩
    · intro D hD_  x4 x15 x14 x13 x12 x11 x10 x9 x8 x7 x6 x5 w_
      rintro ⟨h0_, h1_, h2_, h3_, h4_, h5_, h6_, h7_, h8_, h9_, h10_, h11_, ⟨k7, hI⟩⟩
      exact ⟨fun _ => rfl, h1_, h2_, h3_, h4_, h5_, h6_, h7_, h8_, h9_, h10_, h11_, ⟨k7, hI⟩⟩
    · intro D hD_ d0_0 x4 x15 x14 x13 x12 x11 x10 x9 x8 x7 x6 x5 w_
      rintro ⟨h0_, h1_, h2_, h3_, h4_, h5_, h6_, h7_, h8_, h9_, h10_, h11_, ⟨k7, hI⟩⟩
      obtain rfl := h0_ d0_0
      refine Run.callPure fn_i_ProgramValid nm_i_ProgramValid hI (iProgramValid_calls h) fun w_ hI => ?_; rw [hv]
      exact ⟨h0_, fun _ => rfl, h2_, h3_, h4_, h5_, h6_, h7_, h8_, h9_, h10_, h11_, ⟨k7, hI⟩⟩
    · intro D hD_ d1_0 d1_1 x4 x15 x14 x13 x12 x11 x10 x9 x8 x7 x6 x5 w_
      rintro ⟨h0_, h1_, h2_, h3_, h4_, h5_, h6_, h7_, h8_, h9_, h10_, h11_, ⟨k7, hI⟩⟩
      obtain rfl := h1_ d1_0
      exact ⟨h0_, h1_, fun _ => rfl, h3_, h4_, h5_, h6_, h7_, h8_, h9_, h10_, h11_, ⟨k7, hI⟩⟩
    · intro D hD_ d2_0 x4 x15 x14 x13 x12 x11 x10 x9 x8 x7 x6 x5 w_
      rintro ⟨h0_, h1_, h2_, h3_, h4_, h5_, h6_, h7_, h8_, h9_, h10_, h11_, ⟨k7, hI⟩⟩
      obtain rfl := h2_ d2_0
      repeat (first | refine guard_true ?_ | refine guard_ne (by decide) ?_ | refine guard_undef ?_ | refine r_pickT ?_ | refine r_pickF ?_)
      exact ⟨h0_, h1_, h2_, fun _ => rfl, h4_, h5_, h6_, h7_, h8_, h9_, h10_, h11_, ⟨k7, hI⟩⟩
    · intro D hD_ d2_0 x4 x15 x14 x13 x12 x11 x10 x9 x8 x7 x6 x5 w_
      rintro ⟨h0_, h1_, h2_, h3_, h4_, h5_, h6_, h7_, h8_, h9_, h10_, h11_, ⟨k7, hI⟩⟩
      obtain rfl := h2_ d2_0
      repeat (first | refine guard_true ?_ | refine guard_ne (by decide) ?_ | refine guard_undef ?_ | refine r_pickT ?_ | refine r_pickF ?_)
      exact ⟨h0_, h1_, h2_, h3_, fun _ => rfl, h5_, h6_, h7_, h8_, h9_, h10_, h11_, ⟨k7, hI⟩⟩
    · intro D hD_ d2_0 x4 x15 x14 x13 x12 x11 x10 x9 x8 x7 x6 x5 w_
      rintro ⟨h0_, h1_, h2_, h3_, h4_, h5_, h6_, h7_, h8_, h9_, h10_, h11_, ⟨k7, hI⟩⟩
      obtain rfl := h2_ d2_0
      repeat (first | refine guard_true ?_ | refine guard_ne (by decide) ?_ | refine guard_undef ?_ | refine r_pickT ?_ | refine r_pickF ?_)
      refine r_loadW hI 0 ag_iPred rfl rfl ?_
      exact ⟨h0_, h1_, h2_, h3_, h4_, fun _ => rfl, h6_, h7_, h8_, h9_, h10_, h11_, ⟨k7, hI⟩⟩
    · intro D hD_ d4_0 d5_1 d2_2 d2_3 x4 x15 x14 x13 x12 x11 x10 x9 x8 x7 x6 x5 w_
      rintro ⟨h0_, h1_, h2_, h3_, h4_, h5_, h6_, h7_, h8_, h9_, h10_, h11_, ⟨k7, hI⟩⟩
      obtain rfl := h4_ d4_0
      obtain rfl := h5_ d5_1
      obtain rfl := h2_ d2_2
      repeat (first | refine guard_true ?_ | refine guard_ne (by decide) ?_ | refine guard_undef ?_ | refine r_pickT ?_ | refine r_pickF ?_)
      have e7 : D 7 = false := Bool.eq_false_iff.2 fun h => by rw [k7 h] at hD_; cases hD_
      rw [hD_, e7] at hI
      refine Run.call0 fn_i_callsOf nm_i_callsOf hI hcc fun u I' S2 w_ => ?_
      rintro ⟨rfl, rfl⟩ _ hI
      have k7 := fun (_ : setD D 6 7 = true) => (rfl : setD D 6 6 = true)
      have hI : Inv w [] (recItems (.blk b3 (.cells #[.string xs, .int .i64 xn] t_iPred)) (rowP u cs) (rowP x12 (reachP p cs)) (setD D 6 6) (setD D 6 7)) S2 w_ := by
        rw [show setD D 6 7 = false from e7]
        exact hI
      exact ⟨h0_, h1_, h2_, h3_, h4_, h5_, fun _ => by first | assumption | trivial, h7_, h8_, h9_, h10_, h11_, ⟨k7, hI⟩⟩
    · intro D hD_ d3_0 d6_1 d6_2 d2_3 x4 x15 x14 x13 x12 x11 x10 x9 x8 x7 x6 x5 w_
      rintro ⟨h0_, h1_, h2_, h3_, h4_, h5_, h6_, h7_, h8_, h9_, h10_, h11_, ⟨k7, hI⟩⟩
      obtain rfl := h3_ d3_0
      have g6_ := h6_ d6_1
      obtain rfl := h2_ d2_3
      repeat (first | refine guard_true ?_ | refine guard_ne (by decide) ?_ | refine guard_undef ?_ | refine r_pickT ?_ | refine r_pickF ?_)
      rw [d6_1, hD_] at hI
      refine Run.call (A := [_]) fn_i_reach nm_i_reach hI (hrs x11) fun u I' S2 w_ => ?_
      rintro ⟨rfl, rfl⟩ _ hI
      have k7 := fun (_ : setD D 7 7 = true) => (d6_1 : setD D 7 6 = true)
      exact ⟨h0_, h1_, h2_, h3_, h4_, h5_, h6_, fun _ => by first | assumption | trivial, h8_, h9_, h10_, h11_, ⟨k7, hI⟩⟩
    · intro D hD_ d2_0 x4 x15 x14 x13 x12 x11 x10 x9 x8 x7 x6 x5 w_
      rintro ⟨h0_, h1_, h2_, h3_, h4_, h5_, h6_, h7_, h8_, h9_, h10_, h11_, ⟨k7, hI⟩⟩
      obtain rfl := h2_ d2_0
      repeat (first | refine guard_true ?_ | refine guard_ne (by decide) ?_ | refine guard_undef ?_ | refine r_pickT ?_ | refine r_pickF ?_)
      refine r_loadW hI 0 ag_iPred rfl rfl ?_
      exact ⟨h0_, h1_, h2_, h3_, h4_, h5_, h6_, h7_, fun _ => rfl, h9_, h10_, h11_, ⟨k7, hI⟩⟩
    · intro D hD_ d7_0 d8_1 d7_2 d2_3 x4 x15 x14 x13 x12 x11 x10 x9 x8 x7 x6 x5 w_
      rintro ⟨h0_, h1_, h2_, h3_, h4_, h5_, h6_, h7_, h8_, h9_, h10_, h11_, ⟨k7, hI⟩⟩
      have g7_ := h7_ d7_0
      obtain rfl := h8_ d8_1
      obtain rfl := h2_ d2_3
      repeat (first | refine guard_true ?_ | refine guard_ne (by decide) ?_ | refine guard_undef ?_ | refine r_pickT ?_ | refine r_pickF ?_)
      have hI : Inv w [] ([.blk b3 (.cells #[.string xs, .int .i64 xn] t_iPred)] ++ [rowP x12 (reachP p cs)]) S w_ := by
        rw [d7_0] at hI; exact hI
      obtain ⟨S1, hle, hrd, hI, hback⟩ := hI.lend
      refine Run.callPure fn_x_Contains_Pred nm_x_Contains_Pred hI (Contains_Pred_calls ⟨xs, xn⟩ hrd.preds) fun w_ hI => ?_
      have hI := hback _ _ hI
      have hI : Inv w [] (recItems (.blk b3 (.cells #[.string xs, .int .i64 xn] t_iPred)) (rowP x11 cs) (rowP x12 (reachP p cs)) (D 6) (D 7)) S w_ := by
        rw [d7_0]; exact hI
      exact ⟨h0_, h1_, h2_, h3_, h4_, h5_, h6_, h7_, h8_, fun _ => rfl, h10_, h11_, ⟨k7, hI⟩⟩
    · intro D hD_ d2_0 d9_1 x4 x15 x14 x13 x12 x11 x10 x9 x8 x7 x6 x5 w_
      rintro ⟨h0_, h1_, h2_, h3_, h4_, h5_, h6_, h7_, h8_, h9_, h10_, h11_, ⟨k7, hI⟩⟩
      obtain rfl := h2_ d2_0
      obtain rfl := h9_ d9_1
      refine r_pickT ?_
      exact ⟨h0_, h1_, h2_, h3_, h4_, h5_, h6_, h7_, h8_, h9_, fun _ => rfl, h11_, ⟨k7, hI⟩⟩
    · intro D hD_ d10_0 d9_1 d0_2 d1_3 d2_4 d3_5 d4_6 d5_7 d6_8 d7_9 d8_10 d9_11 d10_12 x4 x15 x14 x13 x12 x11 x10 x9 x8 x7 x6 x5 w_
      rintro ⟨h0_, h1_, h2_, h3_, h4_, h5_, h6_, h7_, h8_, h9_, h10_, h11_, ⟨k7, hI⟩⟩
      obtain rfl := h10_ d10_0
      exact ⟨h0_, h1_, h2_, h3_, h4_, h5_, h6_, h7_, h8_, h9_, h10_, fun _ => rfl, ⟨k7, hI⟩⟩
    intro D d11_ d10_ d9_ d8_ d7_ d6_ d5_ d4_ d3_ d2_ d1_ d0_ x4 x15 x14 x13 x12 x11 x10 x9 x8 x7 x6 x5 w_
    rintro ⟨h0_, h1_, h2_, h3_, h4_, h5_, h6_, h7_, h8_, h9_, h10_, h11_, ⟨k7, hI⟩⟩
    obtain rfl := h11_ d11_
    obtain rfl := h10_ d10_
    obtain rfl := h9_ d9_
    obtain rfl := h8_ d8_
    have g7_ := h7_ d7_
    have g6_ := h6_ d6_
    obtain rfl := h5_ d5_
    obtain rfl := h4_ d4_
    obtain rfl := h3_ d3_
    obtain rfl := h2_ d2_
    obtain rfl := h1_ d1_
    obtain rfl := h0_ d0_
    clear h0_ h1_ h2_ h3_ h4_ h5_ h6_ h7_ h8_ h9_ h10_ h11_
    exact done hI (by rw [recurB, hv, hcs]; rfl)

end Go.Proofs.Ytnoieadimkgjcaa
