/- Which clauses can be unfolded: the program's side. -/
import Derived.Test.YtnoieadimkgjcaaCanUnf
namespace Go.Proofs.Ytnoieadimkgjcaa
open Go Go.RowKit
attribute [local irreducible] Run CondV GuardV LoadV

theorem all_has (a : Int → Bool) (k : Int) : ∀ l : List Int, (l.all fun n => !(a n || decide (n = k))) = (!hasI l k && l.all fun n => !a n)
  | [] => rfl
  | x :: xs => by
    have := all_has a k xs
    simp only [hasI, List.all_cons, List.any_cons] at this ⊢
    rw [this]
    by_cases h : x = k
    · subst h; simp
    · rw [decide_eq_false h, decide_eq_false (fun e => h e.symm)]
      cases a x <;> simp
theorem iCanUnfold_1_calls {p : List C} {S : Store} {v : Value} {b : Nat} {m : Nat} (h : RdSl S 5 (RdC S) v p) (hm : m < p.length) :
    Tri Try.prog n_i_CanUnfold_1 [.int .i64 m, .pointer (some ⟨b, 0, none⟩)] [.blk b (.cells #[v] t_SiClause)] S fun r I' S' => r = .bool (cutsB p[m]) ∧ I' = [.blk b (.cells #[v] t_SiClause)] ∧ S' = S := by
  intro w hI
  refine calls_i_CanUnfold_1 ?_
  unfold sh_i_CanUnfold_1
  refine r_loadL hI 0 sc_SiClause rfl rfl ?_
  refine r_elem hI h sl_SiClause ag_iClause hm (fun _ _ => RdC.length) fun cs' hcs' => ?_
  refine Run.callPure fn_i_hasCut nm_i_hasCut hI (hasCut_calls hcs') fun w' hI => ?_
  exact ⟨_, _, _, rfl, hI, Ext.refl _ _ _, rfl, rfl, rfl⟩

theorem iCanUnfold_calls {p : List C} {S : Store} {v : Value} (i : Int) (h : RdSl S 5 (RdC S) v p) (hw : p.length + wP p ≤ 1048576) : Pure Try.prog n_i_CanUnfold [v, .int .i64 i] S (.bool (unfB p i)) := by
  intro w hI
  have h0 := h
  obtain ⟨a, cap, rfl, _⟩ := h0
  refine calls_i_CanUnfold ?_
  unfold sh_i_CanUnfold
  refine r_box hI fun b2 w' hI => ?_
  have hI : Inv w [] [.blk b2 (.cells #[.slice a p.length cap] t_SiClause)] S w' := hI
  refine ⟨fun t w' => ∃ q, t = .bool q ∧ (q = true → unfB p i = false) ∧ (q = false → progB p = true ∧ ∃ (k : Nat) (hk : k < p.length), i = k ∧ firstB p[k] = true ∧ cutsB p[k] = false) ∧ Inv w [] [.blk b2 (.cells #[.slice a p.length cap] t_SiClause)] S w', ?_, ?_⟩
  · refine r_loadL hI 0 sc_SiClause rfl rfl ?_
    refine Run.callPure fn_i_ProgramValid nm_i_ProgramValid hI (iProgramValid_calls h) fun w' hI => ?_
    refine r_not ?_
    cases hv : progB p
    · repeat (first | refine guard_true ?_ | refine guard_ne (by decide) ?_ | refine guard_undef ?_ | refine r_pickT ?_ | refine r_pickF ?_)
      exact ⟨true, rfl, fun _ => by rw [unfB, hv]; rfl, fun h => Bool.noConfusion h, hI⟩
    · repeat (first | refine guard_true ?_ | refine guard_ne (by decide) ?_ | refine guard_undef ?_ | refine r_pickT ?_ | refine r_pickF ?_)
      refine r_loadL hI 0 sc_SiClause rfl rfl ?_
      refine r_lenSl h sl_SiClause ?_
      refine r_sub (by omega) ?_
      refine Run.callPure fn_i_within nm_i_within hI (within_calls _ _ _ S) fun w' hI => ?_
      refine r_not ?_
      cases hq : (decide (0 ≤ i) && decide (i ≤ (p.length : Int) - 1))
      · repeat (first | refine guard_true ?_ | refine guard_ne (by decide) ?_ | refine guard_undef ?_ | refine r_pickT ?_ | refine r_pickF ?_)
        refine ⟨true, rfl, fun _ => ?_, fun h => Bool.noConfusion h, hI⟩
        rw [unfB, hv]
        by_cases h1 : 0 ≤ i
        · rw [decide_eq_true h1, Bool.true_and] at hq
          have := of_decide_eq_false hq
          rw [List.getElem?_eq_none (by omega)]; simp
        · rw [decide_eq_false h1]; rfl
      · repeat (first | refine guard_true ?_ | refine guard_ne (by decide) ?_ | refine guard_undef ?_ | refine r_pickT ?_ | refine r_pickF ?_)
        simp only [Bool.and_eq_true, decide_eq_true_eq] at hq
        obtain ⟨k, rfl⟩ : ∃ k : Nat, i = k := ⟨i.toNat, by omega⟩
        have hk : k < p.length := by omega
        have hu : unfB p k = unfC p k p[k] := by
          rw [unfB, hv, Int.toNat_natCast, List.getElem?_eq_getElem hk, decide_eq_true (show (0 : Int) ≤ k by omega)]; rfl
        refine r_loadL hI 0 sc_SiClause rfl rfl ?_
        refine r_elem hI h sl_SiClause ag_iClause hk (fun _ _ => RdC.length) fun cs' hcs' => ?_
        refine Run.callPure fn_i_firstPlain nm_i_firstPlain hI (i_firstPlain_calls hcs') fun w' hI => ?_
        refine r_not ?_
        cases hf : firstB p[k]
        · repeat (first | refine guard_true ?_ | refine guard_ne (by decide) ?_ | refine guard_undef ?_ | refine r_pickT ?_ | refine r_pickF ?_)
          exact ⟨true, rfl, fun _ => by rw [hu, unfC_first hf], fun h => Bool.noConfusion h, hI⟩
        · repeat (first | refine guard_true ?_ | refine guard_ne (by decide) ?_ | refine guard_undef ?_ | refine r_pickT ?_ | refine r_pickF ?_)
          refine r_loadL hI 0 sc_SiClause rfl rfl ?_
          refine r_elem hI h sl_SiClause ag_iClause hk (fun _ _ => RdC.length) fun cs' hcs' => ?_
          refine Run.callPure fn_i_hasCut nm_i_hasCut hI (hasCut_calls hcs') fun w' hI => ?_
          repeat (first | refine guard_true ?_ | refine guard_ne (by decide) ?_ | refine guard_undef ?_ | refine r_pickT ?_ | refine r_pickF ?_)
          refine ⟨_, rfl, fun hc => ?_, fun hc => ⟨rfl, k, hk, rfl, hf, hc⟩, hI⟩
          obtain ⟨g, gs, hbd, hpl⟩ := first_iff hf
          rw [hu, unfC, hbd]
          simp [hc]
  intro t _ _ _ _ _ _ _ _ _ _ _ _ _ _ _ _ _ _ _ _ _ _ _ _ _ w'
  rintro ⟨q, rfl, hq1, hq2, hI⟩
  refine condV (fun hb => done hI (by rw [hq1 hb])) (fun hb => ?_)
  obtain ⟨hpv, k, hk, rfl, hfst, hncut⟩ := hq2 hb
  obtain ⟨g, gs, hbd, hpl⟩ := first_iff hfst
  have hbl : 0 < p[k].body.length := by rw [hbd]; simp
  have hg0 : p[k].body[0] = g := by simp [hbd]
  have hu : unfB p k = (decide (0 < (forL p g).length) && (!hasI (forL p g) k && (forL p g).all fun n => !cutAt p n)) := by
    rw [unfB, hpv, Int.toNat_natCast, List.getElem?_eq_getElem hk]
    simp only [unfC, hbd, hpl, hncut]
    rw [decide_eq_true (show (0 : Int) ≤ k by omega), all_has]
    simp
  obtain ⟨b, o, cap', c, E, fz, hav, hS, hR⟩ := h.at_ hk
  obtain ⟨hd, ks, hcs, h1, h2⟩ := hR
  obtain ⟨kv, rfl, _⟩ := RdT.iff.1 h1
  obtain ⟨bb, bo, bcap, bc, bE, bfz, rfl, hbS, hbR⟩ := h2.at_ hbl
  rw [hg0] at hbR
  simp only [Value.slice.injEq, true_and] at hav
  obtain ⟨rfl, rfl⟩ := hav
  refine ⟨fun D x5 x41 x40 x39 x38 x37 x36 x35 x34 x33 x32 w_ => (D 0 = true → x32 = .slice (some ⟨b, o, none⟩) p.length cap) ∧ (D 1 = true → x33 = .slice (some ⟨b, o, none⟩) p.length cap) ∧ (D 2 = true → x34 = .int .i64 k) ∧ (D 3 = true → x35 = .pointer (some ⟨b, o + k * 5, none⟩)) ∧ (D 4 = true → x36 = .pointer (some ⟨b, o + k * 5 + 4, none⟩)) ∧ (D 5 = true → x37 = .slice (some ⟨bb, bo, none⟩) p[k].body.length bcap) ∧ (D 6 = true → x38 = .pointer (some ⟨bb, bo, none⟩)) ∧ (D 7 = true → x39 = .agg (cellsAt bc bo 4).toArray) ∧ (D 8 = true → x40 = .agg (predT g).cells.toArray) ∧ (D 9 = true → True) ∧ (D 10 = true → True) ∧ ∃ S1, Sle S S1 ∧ (D 9 = true → RdSl S1 1 RdInt x41 (forL p g)) ∧ (D 10 = true → RdSl S1 1 RdInt x5 (forL p g)) ∧ Inv w [] [.blk b2 (.cells #[.slice (some ⟨b, o, none⟩) p.length cap] t_SiClause)] S1 w_, ⟨fun h => Bool.noConfusion h, fun h => Bool.noConfusion h, fun h => Bool.noConfusion h, fun h => Bool.noConfusion h, fun h => Bool.noConfusion h, fun h => Bool.noConfusion h, fun h => Bool.noConfusion h, fun h => Bool.noConfusion h, fun h => Bool.noConfusion h, fun h => Bool.noConfusion h, fun h => Bool.noConfusion h, ⟨S, Sle.refl S, fun h => Bool.noConfusion h, fun h => Bool.noConfusion h, hI.draw⟩⟩, ⟨?_, ?_, ?_, ?_, ?_, ?_, ?_, ?_, ?_, ?_, ?_, trivial⟩, ?_⟩
  · intro D _  x5 x41 x40 x39 x38 x37 x36 x35 x34 x33 x32 w_
    rintro ⟨h0_, h1_, h2_, h3_, h4_, h5_, h6_, h7_, h8_, h9_, h10_, ⟨S1, hle, hl1, hl2, hI⟩⟩
    refine r_loadL hI 0 sc_SiClause rfl rfl ?_
    exact ⟨fun _ => rfl, h1_, h2_, h3_, h4_, h5_, h6_, h7_, h8_, h9_, h10_, ⟨S1, hle, hl1, hl2, hI⟩⟩
  · intro D _  x5 x41 x40 x39 x38 x37 x36 x35 x34 x33 x32 w_
    rintro ⟨h0_, h1_, h2_, h3_, h4_, h5_, h6_, h7_, h8_, h9_, h10_, ⟨S1, hle, hl1, hl2, hI⟩⟩
    refine r_loadL hI 0 sc_SiClause rfl rfl ?_
    exact ⟨h0_, fun _ => rfl, h2_, h3_, h4_, h5_, h6_, h7_, h8_, h9_, h10_, ⟨S1, hle, hl1, hl2, hI⟩⟩
  · intro D _  x5 x41 x40 x39 x38 x37 x36 x35 x34 x33 x32 w_
    rintro ⟨h0_, h1_, h2_, h3_, h4_, h5_, h6_, h7_, h8_, h9_, h10_, ⟨S1, hle, hl1, hl2, hI⟩⟩
    exact ⟨h0_, h1_, fun _ => rfl, h3_, h4_, h5_, h6_, h7_, h8_, h9_, h10_, ⟨S1, hle, hl1, hl2, hI⟩⟩
  · intro D _ d1_0 d2_1 x5 x41 x40 x39 x38 x37 x36 x35 x34 x33 x32 w_
    rintro ⟨h0_, h1_, h2_, h3_, h4_, h5_, h6_, h7_, h8_, h9_, h10_, ⟨S1, hle, hl1, hl2, hI⟩⟩
    obtain rfl := h1_ d1_0
    obtain rfl := h2_ d2_1
    refine r_indexAddr sl_SiClause hk ?_
    exact ⟨h0_, h1_, h2_, fun _ => rfl, h4_, h5_, h6_, h7_, h8_, h9_, h10_, ⟨S1, hle, hl1, hl2, hI⟩⟩
  · intro D _ d3_0 x5 x41 x40 x39 x38 x37 x36 x35 x34 x33 x32 w_
    rintro ⟨h0_, h1_, h2_, h3_, h4_, h5_, h6_, h7_, h8_, h9_, h10_, ⟨S1, hle, hl1, hl2, hI⟩⟩
    obtain rfl := h3_ d3_0
    refine r_field fo_iClause_1 ?_
    exact ⟨h0_, h1_, h2_, h3_, fun _ => rfl, h5_, h6_, h7_, h8_, h9_, h10_, ⟨S1, hle, hl1, hl2, hI⟩⟩
  · intro D _ d4_0 x5 x41 x40 x39 x38 x37 x36 x35 x34 x33 x32 w_
    rintro ⟨h0_, h1_, h2_, h3_, h4_, h5_, h6_, h7_, h8_, h9_, h10_, ⟨S1, hle, hl1, hl2, hI⟩⟩
    obtain rfl := h4_ d4_0
    refine r_load sc_SiTerm (by rw [hI.cellS (hle _ _ hS)]; exact cellsAt_get hcs 4 _ rfl) ?_
    exact ⟨h0_, h1_, h2_, h3_, h4_, fun _ => rfl, h6_, h7_, h8_, h9_, h10_, ⟨S1, hle, hl1, hl2, hI⟩⟩
  · intro D _ d5_0 x5 x41 x40 x39 x38 x37 x36 x35 x34 x33 x32 w_
    rintro ⟨h0_, h1_, h2_, h3_, h4_, h5_, h6_, h7_, h8_, h9_, h10_, ⟨S1, hle, hl1, hl2, hI⟩⟩
    obtain rfl := h5_ d5_0
    refine r_indexAddr (i := 0) sl_SiTerm hbl ?_
    exact ⟨h0_, h1_, h2_, h3_, h4_, h5_, fun _ => rfl, h7_, h8_, h9_, h10_, ⟨S1, hle, hl1, hl2, hI⟩⟩
  · intro D _ d6_0 x5 x41 x40 x39 x38 x37 x36 x35 x34 x33 x32 w_
    rintro ⟨h0_, h1_, h2_, h3_, h4_, h5_, h6_, h7_, h8_, h9_, h10_, ⟨S1, hle, hl1, hl2, hI⟩⟩
    obtain rfl := h6_ d6_0
    refine r_loadA ag_iTerm (by simpa using hbR.length) (fun j v hj => by rw [hI.cellS (hle _ _ hbS)]; exact cellsAt_get rfl j v hj) ?_
    exact ⟨h0_, h1_, h2_, h3_, h4_, h5_, h6_, fun _ => rfl, h8_, h9_, h10_, ⟨S1, hle, hl1, hl2, hI⟩⟩
  · intro D _ d7_0 x5 x41 x40 x39 x38 x37 x36 x35 x34 x33 x32 w_
    rintro ⟨h0_, h1_, h2_, h3_, h4_, h5_, h6_, h7_, h8_, h9_, h10_, ⟨S1, hle, hl1, hl2, hI⟩⟩
    obtain rfl := h7_ d7_0
    refine Run.callPure fn_i_pred nm_i_pred hI (i_pred_calls (by simpa using hbR.mono hle)) fun w_ hI => ?_
    exact ⟨h0_, h1_, h2_, h3_, h4_, h5_, h6_, h7_, fun _ => rfl, h9_, h10_, ⟨S1, hle, hl1, hl2, hI⟩⟩
  · intro D _ d0_0 d8_1 d8_2 x5 x41 x40 x39 x38 x37 x36 x35 x34 x33 x32 w_
    rintro ⟨h0_, h1_, h2_, h3_, h4_, h5_, h6_, h7_, h8_, h9_, h10_, ⟨S1, hle, hl1, hl2, hI⟩⟩
    obtain rfl := h0_ d0_0
    obtain rfl := h8_ d8_1
    refine Run.call0 fn_i_clausesFor nm_i_clausesFor hI (clausesFor_calls (predT g) (h.monoC hle) (by omega)) fun v1 I' S2 w_ => ?_
    rintro ⟨rfl, rfl⟩ _ hI
    have hI : Inv w [] ([.blk b2 (.cells #[.slice (some ⟨b, o, none⟩) p.length cap] t_SiClause)] ++ [rowI v1 (forL p g)]) S2 w_ := hI
    obtain ⟨S1, hle3, hrd, hI, _⟩ := hI.lend
    have hle := hle.trans hle3
    have hl1 := fun (_ : setD D 9 9 = true) => hrd.ints
    have hl2 := fun (h : setD D 9 10 = true) => (hl2 h).mono hle3 fun _ _ h => h
    exact ⟨h0_, h1_, h2_, h3_, h4_, h5_, h6_, h7_, h8_, fun _ => by first | assumption | trivial, h10_, ⟨S1, hle, hl1, hl2, hI⟩⟩
  · intro D _ d9_0 d9_1 d0_2 d1_3 d2_4 d3_5 d4_6 d5_7 d6_8 d7_9 d8_10 d9_11 x5 x41 x40 x39 x38 x37 x36 x35 x34 x33 x32 w_
    rintro ⟨h0_, h1_, h2_, h3_, h4_, h5_, h6_, h7_, h8_, h9_, h10_, ⟨S1, hle, hl1, hl2, hI⟩⟩
    have g9_ := h9_ d9_0
    have hl2 := fun (_ : setD D 10 10 = true) => hl1 d9_0
    exact ⟨h0_, h1_, h2_, h3_, h4_, h5_, h6_, h7_, h8_, h9_, fun _ => by first | assumption | trivial, ⟨S1, hle, hl1, hl2, hI⟩⟩
  intro D d10_ d9_ d8_ d7_ d6_ d5_ d4_ d3_ d2_ d1_ d0_ x5 x41 x40 x39 x38 x37 x36 x35 x34 x33 x32 w_
  rintro ⟨h0_, h1_, h2_, h3_, h4_, h5_, h6_, h7_, h8_, h9_, h10_, ⟨S1, hle, hl1, hl2, hI⟩⟩
  have g10_ := h10_ d10_
  have g9_ := h9_ d9_
  obtain rfl := h8_ d8_
  obtain rfl := h7_ d7_
  obtain rfl := h6_ d6_
  obtain rfl := h5_ d5_
  obtain rfl := h4_ d4_
  obtain rfl := h3_ d3_
  obtain rfl := h2_ d2_
  obtain rfl := h1_ d1_
  obtain rfl := h0_ d0_
  clear h0_ h1_ h2_ h3_ h4_ h5_ h6_ h7_ h8_ h9_ h10_
  have hr := hl2 d10_
  have h' := h.monoC hle
  have hmem : ∀ n ∈ forL p g, ∃ (j : Nat) (hj : j < p.length), n = j := by
    intro n hn
    obtain ⟨j, _, h2, h3, _⟩ := posOf_at _ p 0 n hn
    exact ⟨j, h3, by omega⟩
  generalize forL p g = l at hr hu hmem
  refine r_lenSl hr sl_Sint ?_
  refine r_gtr ?_
  rw [hu]
  by_cases hl0 : 0 < l.length
  · rw [decide_eq_true hl0, decide_eq_true (show (0 : Int) < l.length by omega)]
    repeat (first | refine guard_true ?_ | refine guard_ne (by decide) ?_ | refine guard_undef ?_ | refine r_pickT ?_ | refine r_pickF ?_)
    refine Run.callPure fn_x_Contains_int nm_x_Contains_int hI (Contains_int_calls k hr) fun w' hI => ?_
    refine r_not ?_
    cases hh : hasI l k
    · repeat (first | refine guard_true ?_ | refine guard_ne (by decide) ?_ | refine guard_undef ?_ | refine r_pickT ?_ | refine r_pickF ?_)
      refine r_makeFunc ?_
      have hcb2 : Cb Try.prog n_i_CanUnfold_1 _ [.pointer (some ⟨b2, 0, none⟩)] S1 (fun _ : Unit => [.blk b2 (.cells #[.slice (some ⟨b, o, none⟩) p.length cap] t_SiClause)]) (fun _ => True) (fun _ x => (cutAt p x, ())) (fun v x => v = .int .i64 x) l :=
        Cb.pure [.blk b2 (.cells #[.slice (some ⟨b, o, none⟩) p.length cap] t_SiClause)] fn_i_CanUnfold_1 nm_i_CanUnfold_1 fun x v hx => by
          rintro rfl
          obtain ⟨m, hm, rfl⟩ := hmem x hx
          have hcm : cutAt p m = cutsB p[m] := by rw [cutAt, Int.toNat_natCast, List.getElem?_eq_getElem hm]
          rw [hcm]
          exact iCanUnfold_1_calls h' hm
      refine Run.call (A := []) fn_x_ContainsFunc_int nm_x_ContainsFunc_int hI (ContainsFunc_int_of hcb2 hr (st := ()) trivial) fun v' I' S' w' => ?_
      rintro ⟨rfl, rfl, rfl⟩ _ hI
      refine r_not ?_
      repeat (first | refine guard_true ?_ | refine guard_ne (by decide) ?_ | refine guard_undef ?_ | refine r_pickT ?_ | refine r_pickF ?_)
      refine doneS hI hle ?_
      rw [anyF_pure (fun x => cutAt p x) l]
      have := any_not (fun n => !cutAt p n) l
      simp only [Bool.not_not] at this
      rw [this]; simp
    · repeat (first | refine guard_true ?_ | refine guard_ne (by decide) ?_ | refine guard_undef ?_ | refine r_pickT ?_ | refine r_pickF ?_)
      exact doneS hI hle rfl
  · rw [decide_eq_false hl0, decide_eq_false (show ¬ (0 : Int) < l.length by omega)]
    repeat (first | refine guard_true ?_ | refine guard_ne (by decide) ?_ | refine guard_undef ?_ | refine r_pickT ?_ | refine r_pickF ?_)
    exact doneS hI hle rfl

end Go.Proofs.Ytnoieadimkgjcaa
