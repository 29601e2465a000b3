/- FnExactMovePred returns true, whatever the program and the predicate that come in. -/
import Derived.Test.YtnoieadimkgjcaaLawT
import Derived.Test.YtnoieadimkgjcaaMove
import Derived.Test.YtnoieadimkgjcaaSzP
namespace Go.Proofs.Ytnoieadimkgjcaa
open Go Go.RowKit
section
attribute [local irreducible] Run CondV GuardV LoadV
theorem movePs_w (p : List C) (x : Pd) : (movePs p x).length + wP (movePs p x) ≤ p.length + wP p := by
  unfold movePs
  split
  · exact Nat.le_of_eq (movedP_w p x)
  · simp [wP]
def IsRes (S : Store) (l : List C) (ok : Bool) (v : Value) : Prop := ∃ u, v = .tuple #[u, .bool ok] ∧ RdSl S 5 (RdC S) u l
theorem IsRes.mono {S S' : Store} {l : List C} {ok : Bool} {v : Value} (hs : Sle S S') (h : IsRes S l ok v) : IsRes S' l ok v := by
  obtain ⟨u, hx, hr⟩ := h
  exact ⟨u, hx, hr.monoC hs⟩
theorem lawMove_calls {p : List C} {S : Store} {v : Value} (x : Pd) (hs : x.name.size ≤ maxLen) (h : RdSl S 5 (RdC S) v p) : Pure Try.prog n_l_FnExactMovePred [v, .agg x.cells.toArray] S (.bool true) := by
  intro w hI
  refine calls_l_FnExactMovePred ?_
  unfold sh_l_FnExactMovePred
  refine r_box hI fun b3 w' hI => ?_
  have hI : Inv w [] [.blk b3 (.cells x.cells.toArray t_lPred)] S w' := hI
  refine Run.callPure fn_l_szClauseS nm_l_szClauseS hI (szClauseS_calls h (by omega) (by omega)) fun w' hI => ?_
  refine r_lss ?_
  refine condP (fun _ => done hI rfl) (fun hsz => ?_)
  have hw := sz_wPs (p := p) (left := 1048576) (by omega)
  have hle0 := (szPs_le p 1048576 (by omega)).2
  refine r_loadW hI 0 ag_lPred rfl rfl ?_
  refine Run.callPure fn_l_szPred nm_l_szPred hI (szPred_calls hs (by omega) (by omega)) fun w' hI => ?_
  refine r_lss ?_
  refine condP (fun _ => done hI rfl) (fun _ => ?_)
  have hw : p.length + wP p ≤ 1048576 := by omega
  have hcn := cntP_wP p
  have hcp := cntP_pos p
  have hll := movePs_w p x
  have hln := cntP_wP (movePs p x)
  have hlp := cntP_pos (movePs p x)
  generalize hl : movePs p x = l at hll hln hlp
  generalize hok : progB p = ok
  have hs : ∀ {S : Store} {v : Value}, RdSl S 5 (RdC S) v p → Tri Try.prog n_s_MovePred [v, .agg x.cells.toArray] [] S (PostCB S l ok) := fun a => by rw [← hl, ← hok]; exact s_MovePred_calls x a hw
  have hi : ∀ {S : Store} {v : Value}, RdSl S 5 (RdC S) v p → Tri Try.prog n_i_MovePred [v, .agg x.cells.toArray] [] S (PostCB S l ok) := fun a => by rw [← hl, ← hok]; exact i_MovePred_calls x a hw
  refine ⟨fun D x7 x6 x33 x32 x26 x31 x30 x29 x28 x27 w_ => (D 0 = true → x27 = v) ∧ (D 1 = true → True) ∧ (D 2 = true → x29 = .agg x.cells.toArray) ∧ (D 3 = true → x30 = .agg x.cells.toArray) ∧ (D 4 = true → True) ∧ (D 5 = true → True) ∧ (D 6 = true → True) ∧ (D 7 = true → x33 = .bool ok) ∧ (D 8 = true → True) ∧ (D 9 = true → x7 = .bool ok) ∧ ∃ S1, Sle S S1 ∧ (D 1 = true → RdSl S1 5 (RdC S1) x28 p) ∧ (D 4 = true → IsRes S1 l ok x31) ∧ (D 5 = true → IsRes S1 l ok x26) ∧ (D 6 = true → RdSl S1 5 (RdC S1) x32 l) ∧ (D 8 = true → RdSl S1 5 (RdC S1) x6 l) ∧ Inv w [] [.blk b3 (.cells x.cells.toArray t_lPred)] S1 w_, ⟨fun h => Bool.noConfusion h, fun h => Bool.noConfusion h, fun h => Bool.noConfusion h, fun h => Bool.noConfusion h, fun h => Bool.noConfusion h, fun h => Bool.noConfusion h, fun h => Bool.noConfusion h, fun h => Bool.noConfusion h, fun h => Bool.noConfusion h, fun h => Bool.noConfusion h, ⟨S, Sle.refl _, fun h => Bool.noConfusion h, fun h => Bool.noConfusion h, fun h => Bool.noConfusion h, fun h => Bool.noConfusion h, fun h => Bool.noConfusion h, hI.draw⟩⟩, ⟨?_, ?_, ?_, ?_, ?_, ?_, ?_, ?_, ?_, ?_, trivial⟩, ?_⟩
  · intro D hD_  x7 x6 x33 x32 x26 x31 x30 x29 x28 x27 w_
    rintro ⟨h0_, h1_, h2_, h3_, h4_, h5_, h6_, h7_, h8_, h9_, ⟨S1, hleR, e1, e4, e5, e6, e8, hI⟩⟩
    exact ⟨fun _ => rfl, h1_, h2_, h3_, h4_, h5_, h6_, h7_, h8_, h9_, ⟨S1, hleR, e1, e4, e5, e6, e8, hI⟩⟩
  · intro D hD_ d0_0 x7 x6 x33 x32 x26 x31 x30 x29 x28 x27 w_
    rintro ⟨h0_, h1_, h2_, h3_, h4_, h5_, h6_, h7_, h8_, h9_, ⟨S1, hleR, e1, e4, e5, e6, e8, hI⟩⟩
    obtain rfl := h0_ d0_0
    refine Run.toClauseS hI (h.monoC (hleR)) hw fun v1 S1 w_ hle1 h1 hI => ?_
    have hleR := hleR.trans hle1
    have e4 := fun (e : setD D 1 4 = true) => (e4 e).mono hle1
    have e5 := fun (e : setD D 1 5 = true) => (e5 e).mono hle1
    have e6 := fun (e : setD D 1 6 = true) => (e6 e).monoC hle1
    have e8 := fun (e : setD D 1 8 = true) => (e8 e).monoC hle1
    have e1 := fun (_ : setD D 1 1 = true) => h1
    exact ⟨h0_, fun _ => by first | assumption | trivial, h2_, h3_, h4_, h5_, h6_, h7_, h8_, h9_, ⟨S1, hleR, e1, e4, e5, e6, e8, hI⟩⟩
  · intro D hD_  x7 x6 x33 x32 x26 x31 x30 x29 x28 x27 w_
    rintro ⟨h0_, h1_, h2_, h3_, h4_, h5_, h6_, h7_, h8_, h9_, ⟨S1, hleR, e1, e4, e5, e6, e8, hI⟩⟩
    refine r_loadW hI 0 ag_lPred rfl rfl ?_
    exact ⟨h0_, h1_, fun _ => rfl, h3_, h4_, h5_, h6_, h7_, h8_, h9_, ⟨S1, hleR, e1, e4, e5, e6, e8, hI⟩⟩
  · intro D hD_ d2_0 d1_1 x7 x6 x33 x32 x26 x31 x30 x29 x28 x27 w_
    rintro ⟨h0_, h1_, h2_, h3_, h4_, h5_, h6_, h7_, h8_, h9_, ⟨S1, hleR, e1, e4, e5, e6, e8, hI⟩⟩
    obtain rfl := h2_ d2_0
    refine Run.callPure fn_l_toPred nm_l_toPred hI toPred_calls fun w_ hI => ?_
    exact ⟨h0_, h1_, h2_, fun _ => rfl, h4_, h5_, h6_, h7_, h8_, h9_, ⟨S1, hleR, e1, e4, e5, e6, e8, hI⟩⟩
  · intro D hD_ d1_0 d3_1 d3_2 x7 x6 x33 x32 x26 x31 x30 x29 x28 x27 w_
    rintro ⟨h0_, h1_, h2_, h3_, h4_, h5_, h6_, h7_, h8_, h9_, ⟨S1, hleR, e1, e4, e5, e6, e8, hI⟩⟩
    have g1_ := h1_ d1_0
    obtain rfl := h3_ d3_1
    refine Run.pubTree fn_s_MovePred nm_s_MovePred hI (hs (e1 d1_0)) fun u2 S1 w_ hle2 h2 hI => ?_
    have hleR := hleR.trans hle2
    have e1 := fun (e : setD D 4 1 = true) => (e1 e).monoC hle2
    have e5 := fun (e : setD D 4 5 = true) => (e5 e).mono hle2
    have e6 := fun (e : setD D 4 6 = true) => (e6 e).monoC hle2
    have e8 := fun (e : setD D 4 8 = true) => (e8 e).monoC hle2
    have e4 := fun (_ : setD D 4 4 = true) => (⟨u2, rfl, h2⟩ : IsRes S1 l ok (.tuple #[u2, .bool ok]))
    exact ⟨h0_, h1_, h2_, h3_, fun _ => by first | assumption | trivial, h5_, h6_, h7_, h8_, h9_, ⟨S1, hleR, e1, e4, e5, e6, e8, hI⟩⟩
  · intro D hD_ d4_0 x7 x6 x33 x32 x26 x31 x30 x29 x28 x27 w_
    rintro ⟨h0_, h1_, h2_, h3_, h4_, h5_, h6_, h7_, h8_, h9_, ⟨S1, hleR, e1, e4, e5, e6, e8, hI⟩⟩
    have g4_ := h4_ d4_0
    have e5 := fun (_ : setD D 5 5 = true) => e4 d4_0
    exact ⟨h0_, h1_, h2_, h3_, h4_, fun _ => by first | assumption | trivial, h6_, h7_, h8_, h9_, ⟨S1, hleR, e1, e4, e5, e6, e8, hI⟩⟩
  · intro D hD_ d5_0 x7 x6 x33 x32 x26 x31 x30 x29 x28 x27 w_
    rintro ⟨h0_, h1_, h2_, h3_, h4_, h5_, h6_, h7_, h8_, h9_, ⟨S1, hleR, e1, e4, e5, e6, e8, hI⟩⟩
    have g5_ := h5_ d5_0
    obtain ⟨u2, rfl, h2⟩ := e5 d5_0
    refine r_extract rfl ?_
    have e6 := fun (_ : setD D 6 6 = true) => h2
    exact ⟨h0_, h1_, h2_, h3_, h4_, h5_, fun _ => by first | assumption | trivial, h7_, h8_, h9_, ⟨S1, hleR, e1, e4, e5, e6, e8, hI⟩⟩
  · intro D hD_ d5_0 x7 x6 x33 x32 x26 x31 x30 x29 x28 x27 w_
    rintro ⟨h0_, h1_, h2_, h3_, h4_, h5_, h6_, h7_, h8_, h9_, ⟨S1, hleR, e1, e4, e5, e6, e8, hI⟩⟩
    have g5_ := h5_ d5_0
    obtain ⟨u2, rfl, h2⟩ := e5 d5_0
    refine r_extract rfl ?_
    exact ⟨h0_, h1_, h2_, h3_, h4_, h5_, h6_, fun _ => rfl, h8_, h9_, ⟨S1, hleR, e1, e4, e5, e6, e8, hI⟩⟩
  · intro D hD_ d6_0 d4_1 d0_2 d1_3 d2_4 d3_5 d4_6 d5_7 d6_8 x7 x6 x33 x32 x26 x31 x30 x29 x28 x27 w_
    rintro ⟨h0_, h1_, h2_, h3_, h4_, h5_, h6_, h7_, h8_, h9_, ⟨S1, hleR, e1, e4, e5, e6, e8, hI⟩⟩
    have g6_ := h6_ d6_0
    have e8 := fun (_ : setD D 8 8 = true) => e6 d6_0
    exact ⟨h0_, h1_, h2_, h3_, h4_, h5_, h6_, h7_, fun _ => by first | assumption | trivial, h9_, ⟨S1, hleR, e1, e4, e5, e6, e8, hI⟩⟩
  · intro D hD_ d7_0 d8_1 d0_2 d1_3 d2_4 d3_5 d4_6 d5_7 d6_8 d7_9 d8_10 x7 x6 x33 x32 x26 x31 x30 x29 x28 x27 w_
    rintro ⟨h0_, h1_, h2_, h3_, h4_, h5_, h6_, h7_, h8_, h9_, ⟨S1, hleR, e1, e4, e5, e6, e8, hI⟩⟩
    obtain rfl := h7_ d7_0
    exact ⟨h0_, h1_, h2_, h3_, h4_, h5_, h6_, h7_, h8_, fun _ => rfl, ⟨S1, hleR, e1, e4, e5, e6, e8, hI⟩⟩
  intro D d9_ d8_ d7_ d6_ d5_ d4_ d3_ d2_ d1_ d0_ x7 x6 x33 x32 x26 x31 x30 x29 x28 x27 w_
  rintro ⟨h0_, h1_, h2_, h3_, h4_, h5_, h6_, h7_, h8_, h9_, ⟨S1, hleR, e1, e4, e5, e6, e8, hI⟩⟩
  obtain rfl := h9_ d9_
  have g8_ := h8_ d8_
  obtain rfl := h7_ d7_
  have g6_ := h6_ d6_
  have g5_ := h5_ d5_
  have g4_ := h4_ d4_
  obtain rfl := h3_ d3_
  obtain rfl := h2_ d2_
  have g1_ := h1_ d1_
  obtain rfl := h0_ d0_
  clear h0_ h1_ h2_ h3_ h4_ h5_ h6_ h7_ h8_ h9_
  have h2 := e8 d8_
  have hle := hleR
  clear e1 e4 e5 e6 hleR
  refine Run.toClauseM hI (h.monoC hle) hw fun v3 M S3 w' hle3 h3 hT hI hback => ?_
  refine r_loadW hI 0 ag_lPred rfl rfl ?_
  refine Run.callPure fn_l_toPred nm_l_toPred hI toPred_calls fun w' hI => ?_
  refine Run.call0 fn_i_MovePred nm_i_MovePred hI (hi h3) fun v4 I' S' w' => ?_
  rintro ⟨rfl, g, G, rfl, rfl, hG⟩ _ hI
  refine r_extract rfl ?_
  refine r_extract rfl ?_
  refine ⟨fun t w' => t = .bool false ∧ Inv w [] ([.blk b3 (.cells x.cells.toArray t_lPred)] ++ blks G) S' w', ?_, ?_⟩
  · refine Run.eqTreeC (A := [_]) hI hG (h2.monoC hle3) fun w' hI => ?_
    refine r_not ?_
    repeat (first | refine guard_true ?_ | refine guard_ne (by decide) ?_ | refine guard_undef ?_ | refine r_pickT ?_ | refine r_pickF ?_)
    refine r_bneq un_bool ?_
    repeat (first | refine guard_true ?_ | refine guard_ne (by decide) ?_ | refine guard_undef ?_ | refine r_pickT ?_ | refine r_pickF ?_)
    exact ⟨by simp, hI⟩
  intro t _ _ _ _ _ _ _ _ w'
  rintro ⟨rfl, hI⟩
  refine condV (fun hb => by cases hb) (fun _ => ?_)
  refine Run.toClauseS hI (h.monoC (hle.trans hle3)) hw fun v5 S5 w' hle5 h5 hI => ?_
  refine Run.callPure fn_l_eqClauseS nm_l_eqClauseS hI (eqClauseS_calls (h3.monoC hle5) h5) fun w' hI => ?_
  refine r_not ?_
  rw [(eqP_iff p p).2 rfl]
  refine condV (fun hb => by simp at hb) (fun _ => ?_)
  have hI := hback _ _ (hI.less hle5)
  refine Run.markP hI hT (by omega) (by omega) fun w' hI => ?_
  refine ⟨fun t w' => t = .bool false ∧ Inv w [] ([.blk b3 (.cells x.cells.toArray t_lPred)] ++ blks G) S1 w', ?_, ?_⟩
  · refine r_lss ?_
    rw [decide_eq_false (by omega)]
    repeat (first | refine guard_true ?_ | refine guard_ne (by decide) ?_ | refine guard_undef ?_ | refine r_pickT ?_ | refine r_pickF ?_)
    refine Run.eqTreeC (A := [_]) hI hG h2 fun w' hI => ?_
    refine r_not ?_
    repeat (first | refine guard_true ?_ | refine guard_ne (by decide) ?_ | refine guard_undef ?_ | refine r_pickT ?_ | refine r_pickF ?_)
    refine r_bneq un_bool ?_
    repeat (first | refine guard_true ?_ | refine guard_ne (by decide) ?_ | refine guard_undef ?_ | refine r_pickT ?_ | refine r_pickF ?_)
    exact ⟨by simp, hI⟩
  intro t _ _ _ _ _ _ _ _ _ _ _ _ w'
  rintro ⟨rfl, hI⟩
  refine condV (fun hb => by cases hb) (fun _ => ?_)
  refine Run.markTreeC hI hG (by omega) (by omega) fun G' w' hG' hI => ?_
  refine Run.heldTreeC hI hG' (by omega) (by omega) fun w' hI => ?_
  refine r_lss ?_
  refine condP (fun hb => by omega) (fun _ => ?_)
  refine r_neq ?_
  refine condV (fun hb => by simp at hb) (fun _ => ?_)
  refine ⟨fun D x15 x14 x91 x90 x84 x89 x88 x87 x86 x85 w_ => (D 0 = true → x85 = x27) ∧ (D 1 = true → True) ∧ (D 2 = true → x87 = .agg x.cells.toArray) ∧ (D 3 = true → x88 = .agg x.cells.toArray) ∧ (D 4 = true → True) ∧ (D 5 = true → True) ∧ (D 6 = true → True) ∧ (D 7 = true → x91 = .bool ok) ∧ (D 8 = true → True) ∧ (D 9 = true → x15 = .bool ok) ∧ ∃ S2, Sle S1 S2 ∧ (D 1 = true → RdSl S2 5 (RdC S2) x86 p) ∧ (D 4 = true → IsRes S2 l ok x89) ∧ (D 5 = true → IsRes S2 l ok x84) ∧ (D 6 = true → RdSl S2 5 (RdC S2) x90 l) ∧ (D 8 = true → RdSl S2 5 (RdC S2) x14 l) ∧ Inv w [] ([.blk b3 (.cells x.cells.toArray t_lPred)] ++ blks G') S2 w_, ⟨fun h => Bool.noConfusion h, fun h => Bool.noConfusion h, fun h => Bool.noConfusion h, fun h => Bool.noConfusion h, fun h => Bool.noConfusion h, fun h => Bool.noConfusion h, fun h => Bool.noConfusion h, fun h => Bool.noConfusion h, fun h => Bool.noConfusion h, fun h => Bool.noConfusion h, ⟨S1, Sle.refl _, fun h => Bool.noConfusion h, fun h => Bool.noConfusion h, fun h => Bool.noConfusion h, fun h => Bool.noConfusion h, fun h => Bool.noConfusion h, hI.draw⟩⟩, ⟨?_, ?_, ?_, ?_, ?_, ?_, ?_, ?_, ?_, ?_, trivial⟩, ?_⟩
  · intro D hD_  x15 x14 x91 x90 x84 x89 x88 x87 x86 x85 w_
    rintro ⟨h0_, h1_, h2_, h3_, h4_, h5_, h6_, h7_, h8_, h9_, ⟨S2, hleR, e1, e4, e5, e6, e8, hI⟩⟩
    exact ⟨fun _ => rfl, h1_, h2_, h3_, h4_, h5_, h6_, h7_, h8_, h9_, ⟨S2, hleR, e1, e4, e5, e6, e8, hI⟩⟩
  · intro D hD_ d0_0 x15 x14 x91 x90 x84 x89 x88 x87 x86 x85 w_
    rintro ⟨h0_, h1_, h2_, h3_, h4_, h5_, h6_, h7_, h8_, h9_, ⟨S2, hleR, e1, e4, e5, e6, e8, hI⟩⟩
    obtain rfl := h0_ d0_0
    refine Run.toClauseS hI (h.monoC (hle.trans hleR)) hw fun v1 S2 w_ hle1 h1 hI => ?_
    have hleR := hleR.trans hle1
    have e4 := fun (e : setD D 1 4 = true) => (e4 e).mono hle1
    have e5 := fun (e : setD D 1 5 = true) => (e5 e).mono hle1
    have e6 := fun (e : setD D 1 6 = true) => (e6 e).monoC hle1
    have e8 := fun (e : setD D 1 8 = true) => (e8 e).monoC hle1
    have e1 := fun (_ : setD D 1 1 = true) => h1
    exact ⟨h0_, fun _ => by first | assumption | trivial, h2_, h3_, h4_, h5_, h6_, h7_, h8_, h9_, ⟨S2, hleR, e1, e4, e5, e6, e8, hI⟩⟩
  · intro D hD_  x15 x14 x91 x90 x84 x89 x88 x87 x86 x85 w_
    rintro ⟨h0_, h1_, h2_, h3_, h4_, h5_, h6_, h7_, h8_, h9_, ⟨S2, hleR, e1, e4, e5, e6, e8, hI⟩⟩
    refine r_loadW hI 0 ag_lPred rfl rfl ?_
    exact ⟨h0_, h1_, fun _ => rfl, h3_, h4_, h5_, h6_, h7_, h8_, h9_, ⟨S2, hleR, e1, e4, e5, e6, e8, hI⟩⟩
  · intro D hD_ d2_0 d1_1 x15 x14 x91 x90 x84 x89 x88 x87 x86 x85 w_
    rintro ⟨h0_, h1_, h2_, h3_, h4_, h5_, h6_, h7_, h8_, h9_, ⟨S2, hleR, e1, e4, e5, e6, e8, hI⟩⟩
    obtain rfl := h2_ d2_0
    refine Run.callPure fn_l_toPred nm_l_toPred hI toPred_calls fun w_ hI => ?_
    exact ⟨h0_, h1_, h2_, fun _ => rfl, h4_, h5_, h6_, h7_, h8_, h9_, ⟨S2, hleR, e1, e4, e5, e6, e8, hI⟩⟩
  · intro D hD_ d1_0 d3_1 d3_2 x15 x14 x91 x90 x84 x89 x88 x87 x86 x85 w_
    rintro ⟨h0_, h1_, h2_, h3_, h4_, h5_, h6_, h7_, h8_, h9_, ⟨S2, hleR, e1, e4, e5, e6, e8, hI⟩⟩
    have g1_ := h1_ d1_0
    obtain rfl := h3_ d3_1
    refine Run.pubTree fn_i_MovePred nm_i_MovePred hI (hi (e1 d1_0)) fun u2 S2 w_ hle2 h2 hI => ?_
    have hleR := hleR.trans hle2
    have e1 := fun (e : setD D 4 1 = true) => (e1 e).monoC hle2
    have e5 := fun (e : setD D 4 5 = true) => (e5 e).mono hle2
    have e6 := fun (e : setD D 4 6 = true) => (e6 e).monoC hle2
    have e8 := fun (e : setD D 4 8 = true) => (e8 e).monoC hle2
    have e4 := fun (_ : setD D 4 4 = true) => (⟨u2, rfl, h2⟩ : IsRes S2 l ok (.tuple #[u2, .bool ok]))
    exact ⟨h0_, h1_, h2_, h3_, fun _ => by first | assumption | trivial, h5_, h6_, h7_, h8_, h9_, ⟨S2, hleR, e1, e4, e5, e6, e8, hI⟩⟩
  · intro D hD_ d4_0 x15 x14 x91 x90 x84 x89 x88 x87 x86 x85 w_
    rintro ⟨h0_, h1_, h2_, h3_, h4_, h5_, h6_, h7_, h8_, h9_, ⟨S2, hleR, e1, e4, e5, e6, e8, hI⟩⟩
    have g4_ := h4_ d4_0
    have e5 := fun (_ : setD D 5 5 = true) => e4 d4_0
    exact ⟨h0_, h1_, h2_, h3_, h4_, fun _ => by first | assumption | trivial, h6_, h7_, h8_, h9_, ⟨S2, hleR, e1, e4, e5, e6, e8, hI⟩⟩
  · intro D hD_ d5_0 x15 x14 x91 x90 x84 x89 x88 x87 x86 x85 w_
    rintro ⟨h0_, h1_, h2_, h3_, h4_, h5_, h6_, h7_, h8_, h9_, ⟨S2, hleR, e1, e4, e5, e6, e8, hI⟩⟩
    have g5_ := h5_ d5_0
    obtain ⟨u2, rfl, h2⟩ := e5 d5_0
    refine r_extract rfl ?_
    have e6 := fun (_ : setD D 6 6 = true) => h2
    exact ⟨h0_, h1_, h2_, h3_, h4_, h5_, fun _ => by first | assumption | trivial, h7_, h8_, h9_, ⟨S2, hleR, e1, e4, e5, e6, e8, hI⟩⟩
  · intro D hD_ d5_0 x15 x14 x91 x90 x84 x89 x88 x87 x86 x85 w_
    rintro ⟨h0_, h1_, h2_, h3_, h4_, h5_, h6_, h7_, h8_, h9_, ⟨S2, hleR, e1, e4, e5, e6, e8, hI⟩⟩
    have g5_ := h5_ d5_0
    obtain ⟨u2, rfl, h2⟩ := e5 d5_0
    refine r_extract rfl ?_
    exact ⟨h0_, h1_, h2_, h3_, h4_, h5_, h6_, fun _ => rfl, h8_, h9_, ⟨S2, hleR, e1, e4, e5, e6, e8, hI⟩⟩
  · intro D hD_ d6_0 d4_1 d0_2 d1_3 d2_4 d3_5 d4_6 d5_7 d6_8 x15 x14 x91 x90 x84 x89 x88 x87 x86 x85 w_
    rintro ⟨h0_, h1_, h2_, h3_, h4_, h5_, h6_, h7_, h8_, h9_, ⟨S2, hleR, e1, e4, e5, e6, e8, hI⟩⟩
    have g6_ := h6_ d6_0
    have e8 := fun (_ : setD D 8 8 = true) => e6 d6_0
    exact ⟨h0_, h1_, h2_, h3_, h4_, h5_, h6_, h7_, fun _ => by first | assumption | trivial, h9_, ⟨S2, hleR, e1, e4, e5, e6, e8, hI⟩⟩
  · intro D hD_ d7_0 d8_1 d0_2 d1_3 d2_4 d3_5 d4_6 d5_7 d6_8 d7_9 d8_10 x15 x14 x91 x90 x84 x89 x88 x87 x86 x85 w_
    rintro ⟨h0_, h1_, h2_, h3_, h4_, h5_, h6_, h7_, h8_, h9_, ⟨S2, hleR, e1, e4, e5, e6, e8, hI⟩⟩
    obtain rfl := h7_ d7_0
    exact ⟨h0_, h1_, h2_, h3_, h4_, h5_, h6_, h7_, h8_, fun _ => rfl, ⟨S2, hleR, e1, e4, e5, e6, e8, hI⟩⟩
  intro D d9_ d8_ d7_ d6_ d5_ d4_ d3_ d2_ d1_ d0_ x15 x14 x91 x90 x84 x89 x88 x87 x86 x85 w_
  rintro ⟨h0_, h1_, h2_, h3_, h4_, h5_, h6_, h7_, h8_, h9_, ⟨S2, hleR, e1, e4, e5, e6, e8, hI⟩⟩
  obtain rfl := h9_ d9_
  have g8_ := h8_ d8_
  obtain rfl := h7_ d7_
  have g6_ := h6_ d6_
  have g5_ := h5_ d5_
  have g4_ := h4_ d4_
  obtain rfl := h3_ d3_
  obtain rfl := h2_ d2_
  have g1_ := h1_ d1_
  obtain rfl := h0_ d0_
  clear h0_ h1_ h2_ h3_ h4_ h5_ h6_ h7_ h8_ h9_
  have h7 := e8 d8_
  clear e1 e4 e5 e6
  refine ⟨fun t w' => t = .bool false ∧ Inv w [] ([.blk b3 (.cells x.cells.toArray t_lPred)] ++ blks G') S2 w', ?_, ?_⟩
  · refine Run.callPure fn_l_eqClauseS nm_l_eqClauseS hI (eqClauseS_calls h7 (h2.monoC hleR)) fun w' hI => ?_
    rw [(eqP_iff l l).2 rfl]
    refine r_not ?_
    repeat (first | refine guard_true ?_ | refine guard_ne (by decide) ?_ | refine guard_undef ?_ | refine r_pickT ?_ | refine r_pickF ?_)
    refine r_bneq un_bool ?_
    repeat (first | refine guard_true ?_ | refine guard_ne (by decide) ?_ | refine guard_undef ?_ | refine r_pickT ?_ | refine r_pickF ?_)
    exact ⟨by simp, hI⟩
  intro t _ _ _ _ _ _ _ _ w'
  rintro ⟨rfl, hI⟩
  refine condV (fun hb => by cases hb) (fun _ => ?_)
  refine Run.heldTreeC hI hG' (by omega) (by omega) fun w' hI => ?_
  refine r_lss ?_
  refine condP (fun hb => by omega) (fun _ => ?_)
  refine r_neq ?_
  have hle := hle.trans hleR
  exact condV (fun hb => by simp at hb) (fun _ => doneS hI hle rfl)
end

end Go.Proofs.Ytnoieadimkgjcaa
