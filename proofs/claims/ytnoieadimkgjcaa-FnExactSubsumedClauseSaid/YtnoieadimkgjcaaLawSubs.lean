/- FnExactSubsumedClause returns true, whatever clauses come in. -/
import Derived.Test.YtnoieadimkgjcaaSzC
import Derived.Test.YtnoieadimkgjcaaSubs
import Derived.Test.YtnoieadimkgjcaaCopyC
namespace Go.Proofs.Ytnoieadimkgjcaa
open Go Go.RowKit
section
attribute [local irreducible] Run CondV GuardV LoadV
def IsCl (S : Store) (c : C) (v : Value) : Prop := ∃ cs, v = .agg cs.toArray ∧ RdC S cs c
theorem IsCl.mono {S S' : Store} {c : C} {v : Value} (hs : Sle S S') (h : IsCl S c v) : IsCl S' c v := by
  obtain ⟨u, hx, hr⟩ := h
  exact ⟨u, hx, hr.mono hs⟩
theorem lawSubs_calls {c d : C} {S : Store} {cs ds : List Value} (h : RdC S cs c) (g : RdC S ds d) : Pure Try.prog n_l_FnExactSubsumedClause [.agg cs.toArray, .agg ds.toArray] S (.bool true) := by
  intro w hI
  refine calls_l_FnExactSubsumedClause ?_
  unfold sh_l_FnExactSubsumedClause
  refine r_box hI fun b1 w' hI => ?_
  refine r_box hI fun b2 w' hI => ?_
  have hI : Inv w [] [.blk b1 (.cells cs.toArray t_lClause), .blk b2 (.cells ds.toArray t_lClause)] S w' := hI
  refine r_loadW hI 0 ag_lClause rfl (by simpa using h.length) ?_
  refine Run.callPure fn_l_szClause nm_l_szClause hI (szClause_calls h (by omega) (by omega)) fun w' hI => ?_
  refine r_lss ?_
  refine condP (fun _ => done hI rfl) (fun hsz => ?_)
  have hw := sz_wC (c := c) (left := 1048576) (by omega) (by omega)
  have hle0 := (szC_le c 1048576 (by omega)).2
  refine r_loadW hI 1 ag_lClause rfl (by simpa using g.length) ?_
  refine Run.callPure fn_l_szClause nm_l_szClause hI (szClause_calls g (by omega) (by omega)) fun w' hI => ?_
  refine r_lss ?_
  refine condP (fun _ => done hI rfl) (fun hsz2 => ?_)
  have hw2 := sz_wC (c := d) (left := szC c 1048576) (by omega) (by omega)
  have hw : wC c ≤ 1048576 := by omega
  have hw2 : wC d ≤ 1048576 := by omega
  refine ⟨fun D x6 x24 x23 x22 x21 x20 w_ => (D 0 = true → x20 = .agg cs.toArray) ∧ (D 1 = true → True) ∧ (D 2 = true → x22 = .agg ds.toArray) ∧ (D 3 = true → True) ∧ (D 4 = true → x24 = .bool (subB c d)) ∧ (D 5 = true → x6 = .bool (subB c d)) ∧ ∃ S1, Sle S S1 ∧ (D 1 = true → IsCl S1 c x21) ∧ (D 3 = true → IsCl S1 d x23) ∧ Inv w [] [.blk b1 (.cells cs.toArray t_lClause), .blk b2 (.cells ds.toArray t_lClause)] S1 w_, ⟨fun h => Bool.noConfusion h, fun h => Bool.noConfusion h, fun h => Bool.noConfusion h, fun h => Bool.noConfusion h, fun h => Bool.noConfusion h, fun h => Bool.noConfusion h, ⟨S, Sle.refl _, fun h => Bool.noConfusion h, fun h => Bool.noConfusion h, hI.draw⟩⟩, ⟨?_, ?_, ?_, ?_, ?_, ?_, trivial⟩, ?_⟩
  · intro D hD_  x6 x24 x23 x22 x21 x20 w_
    rintro ⟨h0_, h1_, h2_, h3_, h4_, h5_, ⟨S1, hle, e1, e3, hI⟩⟩
    refine r_loadW hI 0 ag_lClause rfl (by simpa using h.length) ?_
    exact ⟨fun _ => rfl, h1_, h2_, h3_, h4_, h5_, ⟨S1, hle, e1, e3, hI⟩⟩
  · intro D hD_ d0_0 x6 x24 x23 x22 x21 x20 w_
    rintro ⟨h0_, h1_, h2_, h3_, h4_, h5_, ⟨S1, hle, e1, e3, hI⟩⟩
    obtain rfl := h0_ d0_0
    refine Run.toClause hI (h.mono hle) hw fun cs1 S1 w_ hle1 h1 hI => ?_
    have hle := hle.trans hle1
    have e3 := fun (e : setD D 1 3 = true) => (e3 e).mono hle1
    have e1 := fun (_ : setD D 1 1 = true) => (⟨cs1, rfl, h1⟩ : IsCl S1 c (.agg cs1.toArray))
    exact ⟨h0_, fun _ => by first | assumption | trivial, h2_, h3_, h4_, h5_, ⟨S1, hle, e1, e3, hI⟩⟩
  · intro D hD_  x6 x24 x23 x22 x21 x20 w_
    rintro ⟨h0_, h1_, h2_, h3_, h4_, h5_, ⟨S1, hle, e1, e3, hI⟩⟩
    refine r_loadW hI 1 ag_lClause rfl (by simpa using g.length) ?_
    exact ⟨h0_, h1_, fun _ => rfl, h3_, h4_, h5_, ⟨S1, hle, e1, e3, hI⟩⟩
  · intro D hD_ d2_0 d1_1 x6 x24 x23 x22 x21 x20 w_
    rintro ⟨h0_, h1_, h2_, h3_, h4_, h5_, ⟨S1, hle, e1, e3, hI⟩⟩
    obtain rfl := h2_ d2_0
    refine Run.toClause hI (g.mono hle) hw2 fun cs1 S1 w_ hle1 h1 hI => ?_
    have hle := hle.trans hle1
    have e1 := fun (e : setD D 3 1 = true) => (e1 e).mono hle1
    have e3 := fun (_ : setD D 3 3 = true) => (⟨cs1, rfl, h1⟩ : IsCl S1 d (.agg cs1.toArray))
    exact ⟨h0_, h1_, h2_, fun _ => by first | assumption | trivial, h4_, h5_, ⟨S1, hle, e1, e3, hI⟩⟩
  · intro D hD_ d1_0 d3_1 d3_2 x6 x24 x23 x22 x21 x20 w_
    rintro ⟨h0_, h1_, h2_, h3_, h4_, h5_, ⟨S1, hle, e1, e3, hI⟩⟩
    have g1_ := h1_ d1_0
    have g3_ := h3_ d3_1
    obtain ⟨q1, rfl, hq1⟩ := e1 d1_0
    obtain ⟨q3, rfl, hq3⟩ := e3 d3_1
    refine Run.callPure fn_s_SubsumedClause nm_s_SubsumedClause hI (s_SubsumedClause_calls hq1 hq3 hw hw2) fun w_ hI => ?_
    exact ⟨h0_, h1_, h2_, h3_, fun _ => rfl, h5_, ⟨S1, hle, e1, e3, hI⟩⟩
  · intro D hD_ d4_0 d4_1 d0_2 d1_3 d2_4 d3_5 d4_6 x6 x24 x23 x22 x21 x20 w_
    rintro ⟨h0_, h1_, h2_, h3_, h4_, h5_, ⟨S1, hle, e1, e3, hI⟩⟩
    obtain rfl := h4_ d4_0
    exact ⟨h0_, h1_, h2_, h3_, h4_, fun _ => rfl, ⟨S1, hle, e1, e3, hI⟩⟩
  intro D d5_ d4_ d3_ d2_ d1_ d0_ x6 x24 x23 x22 x21 x20 w_
  rintro ⟨h0_, h1_, h2_, h3_, h4_, h5_, ⟨S1, hle, e1, e3, hI⟩⟩
  obtain rfl := h5_ d5_
  obtain rfl := h4_ d4_
  have g3_ := h3_ d3_
  obtain rfl := h2_ d2_
  have g1_ := h1_ d1_
  obtain rfl := h0_ d0_
  clear h0_ h1_ h2_ h3_ h4_ h5_
  clear e1 e3
  refine r_loadW hI 0 ag_lClause rfl (by simpa using h.length) ?_
  refine Run.toClause hI (h.mono hle) hw fun es S2 w' hle2 h2 hI => ?_
  have hl2 := h2.length
  refine r_alloc hI zo_iClause fun b7 w' hI => ?_
  refine r_storeW hI 2 rfl ag_iClause (by simpa using hl2) rfl (by simpa using h2.one) fun w' hI => ?_
  refine r_loadW hI 1 ag_lClause rfl (by simpa using g.length) ?_
  refine Run.toClause hI (g.mono (hle.trans hle2)) hw2 fun fs S3 w' hle3 g2 hI => ?_
  have hl3 := g2.length
  refine r_alloc hI zo_iClause fun b8 w' hI => ?_
  refine r_storeW hI 3 rfl ag_iClause (by simpa using hl3) rfl (by simpa using g2.one) fun w' hI => ?_
  have hI : Inv w [] [.blk b1 (.cells cs.toArray t_lClause), .blk b2 (.cells ds.toArray t_lClause), .blk b7 (.cells es.toArray t_iClause), .blk b8 (.cells fs.toArray t_iClause)] S3 w' := hI
  refine r_loadW hI 2 ag_iClause rfl (by simpa using hl2) ?_
  refine r_loadW hI 3 ag_iClause rfl (by simpa using hl3) ?_
  have h2 := h2.mono hle3
  have hle := (hle.trans hle2).trans hle3
  refine Run.callPure fn_i_SubsumedClause nm_i_SubsumedClause hI (i_SubsumedClause_calls h2 g2) fun w' hI => ?_
  refine r_bneq un_bool ?_
  refine condV (fun hb => by simp at hb) (fun _ => ?_)
  refine ⟨fun D x39 x38 x37 x36 x35 w_ => (D 0 = true → x35 = .agg es.toArray) ∧ (D 1 = true → x36 = .agg cs.toArray) ∧ (D 2 = true → True) ∧ (D 3 = true → x38 = .bool true) ∧ (D 4 = true → x39 = .bool false) ∧ ∃ S1, Sle S3 S1 ∧ (D 2 = true → IsCl S1 c x37) ∧ Inv w [] [.blk b1 (.cells cs.toArray t_lClause), .blk b2 (.cells ds.toArray t_lClause), .blk b7 (.cells es.toArray t_iClause), .blk b8 (.cells fs.toArray t_iClause)] S1 w_, ⟨fun h => Bool.noConfusion h, fun h => Bool.noConfusion h, fun h => Bool.noConfusion h, fun h => Bool.noConfusion h, fun h => Bool.noConfusion h, ⟨S3, Sle.refl _, fun h => Bool.noConfusion h, hI.draw⟩⟩, ⟨?_, ?_, ?_, ?_, ?_, trivial⟩, ?_⟩
  · intro D hD_  x39 x38 x37 x36 x35 w_
    rintro ⟨h0_, h1_, h2_, h3_, h4_, ⟨S1, hleR, e2, hI⟩⟩
    refine r_loadW hI 2 ag_iClause rfl (by simpa using h2.length) ?_
    exact ⟨fun _ => rfl, h1_, h2_, h3_, h4_, ⟨S1, hleR, e2, hI⟩⟩
  · intro D hD_  x39 x38 x37 x36 x35 w_
    rintro ⟨h0_, h1_, h2_, h3_, h4_, ⟨S1, hleR, e2, hI⟩⟩
    refine r_loadW hI 0 ag_lClause rfl (by simpa using h.length) ?_
    exact ⟨h0_, fun _ => rfl, h2_, h3_, h4_, ⟨S1, hleR, e2, hI⟩⟩
  · intro D hD_ d1_0 x39 x38 x37 x36 x35 w_
    rintro ⟨h0_, h1_, h2_, h3_, h4_, ⟨S1, hleR, e2, hI⟩⟩
    obtain rfl := h1_ d1_0
    refine Run.toClause hI (h.mono (hle.trans hleR)) (by omega) fun cs1 S1 w_ hle1 h1 hI => ?_
    have hleR := hleR.trans hle1
    have e2 := fun (_ : setD D 2 2 = true) => (⟨cs1, rfl, h1⟩ : IsCl S1 c (.agg cs1.toArray))
    exact ⟨h0_, h1_, fun _ => by first | assumption | trivial, h3_, h4_, ⟨S1, hleR, e2, hI⟩⟩
  · intro D hD_ d0_0 d2_1 d2_2 x39 x38 x37 x36 x35 w_
    rintro ⟨h0_, h1_, h2_, h3_, h4_, ⟨S1, hleR, e2, hI⟩⟩
    obtain rfl := h0_ d0_0
    have g2_ := h2_ d2_1
    obtain ⟨q2, rfl, hq2⟩ := e2 d2_1
    refine Run.callPure fn_l_eqClause nm_l_eqClause hI (eqClause_calls (h2.mono hleR) hq2) fun w_ hI => ?_
    rw [(eqC_iff _ _).2 rfl]
    exact ⟨h0_, h1_, h2_, fun _ => rfl, h4_, ⟨S1, hleR, e2, hI⟩⟩
  · intro D hD_ d3_0 x39 x38 x37 x36 x35 w_
    rintro ⟨h0_, h1_, h2_, h3_, h4_, ⟨S1, hleR, e2, hI⟩⟩
    obtain rfl := h3_ d3_0
    refine r_not ?_
    exact ⟨h0_, h1_, h2_, h3_, fun _ => rfl, ⟨S1, hleR, e2, hI⟩⟩
  intro D d4_ d3_ d2_ d1_ d0_ x39 x38 x37 x36 x35 w_
  rintro ⟨h0_, h1_, h2_, h3_, h4_, ⟨S1, hleR, e2, hI⟩⟩
  obtain rfl := h4_ d4_
  obtain rfl := h3_ d3_
  have g2_ := h2_ d2_
  obtain rfl := h1_ d1_
  obtain rfl := h0_ d0_
  clear h0_ h1_ h2_ h3_ h4_
  clear e2
  refine condV (fun hb => by cases hb) (fun _ => ?_)
  have hle := hle.trans hleR
  have g2 := g2.mono hleR
  clear hleR
  refine ⟨fun D x44 x43 x42 x41 x40 w_ => (D 0 = true → x40 = .agg fs.toArray) ∧ (D 1 = true → x41 = .agg ds.toArray) ∧ (D 2 = true → True) ∧ (D 3 = true → x43 = .bool true) ∧ (D 4 = true → x44 = .bool false) ∧ ∃ S2, Sle S1 S2 ∧ (D 2 = true → IsCl S2 d x42) ∧ Inv w [] [.blk b1 (.cells cs.toArray t_lClause), .blk b2 (.cells ds.toArray t_lClause), .blk b7 (.cells es.toArray t_iClause), .blk b8 (.cells fs.toArray t_iClause)] S2 w_, ⟨fun h => Bool.noConfusion h, fun h => Bool.noConfusion h, fun h => Bool.noConfusion h, fun h => Bool.noConfusion h, fun h => Bool.noConfusion h, ⟨S1, Sle.refl _, fun h => Bool.noConfusion h, hI.draw⟩⟩, ⟨?_, ?_, ?_, ?_, ?_, trivial⟩, ?_⟩
  · intro D hD_  x44 x43 x42 x41 x40 w_
    rintro ⟨h0_, h1_, h2_, h3_, h4_, ⟨S2, hleR, e2, hI⟩⟩
    refine r_loadW hI 3 ag_iClause rfl (by simpa using g2.length) ?_
    exact ⟨fun _ => rfl, h1_, h2_, h3_, h4_, ⟨S2, hleR, e2, hI⟩⟩
  · intro D hD_  x44 x43 x42 x41 x40 w_
    rintro ⟨h0_, h1_, h2_, h3_, h4_, ⟨S2, hleR, e2, hI⟩⟩
    refine r_loadW hI 1 ag_lClause rfl (by simpa using g.length) ?_
    exact ⟨h0_, fun _ => rfl, h2_, h3_, h4_, ⟨S2, hleR, e2, hI⟩⟩
  · intro D hD_ d1_0 x44 x43 x42 x41 x40 w_
    rintro ⟨h0_, h1_, h2_, h3_, h4_, ⟨S2, hleR, e2, hI⟩⟩
    obtain rfl := h1_ d1_0
    refine Run.toClause hI (g.mono (hle.trans hleR)) (by omega) fun cs1 S2 w_ hle1 h1 hI => ?_
    have hleR := hleR.trans hle1
    have e2 := fun (_ : setD D 2 2 = true) => (⟨cs1, rfl, h1⟩ : IsCl S2 d (.agg cs1.toArray))
    exact ⟨h0_, h1_, fun _ => by first | assumption | trivial, h3_, h4_, ⟨S2, hleR, e2, hI⟩⟩
  · intro D hD_ d0_0 d2_1 d2_2 x44 x43 x42 x41 x40 w_
    rintro ⟨h0_, h1_, h2_, h3_, h4_, ⟨S2, hleR, e2, hI⟩⟩
    obtain rfl := h0_ d0_0
    have g2_ := h2_ d2_1
    obtain ⟨q2, rfl, hq2⟩ := e2 d2_1
    refine Run.callPure fn_l_eqClause nm_l_eqClause hI (eqClause_calls (g2.mono hleR) hq2) fun w_ hI => ?_
    rw [(eqC_iff _ _).2 rfl]
    exact ⟨h0_, h1_, h2_, fun _ => rfl, h4_, ⟨S2, hleR, e2, hI⟩⟩
  · intro D hD_ d3_0 x44 x43 x42 x41 x40 w_
    rintro ⟨h0_, h1_, h2_, h3_, h4_, ⟨S2, hleR, e2, hI⟩⟩
    obtain rfl := h3_ d3_0
    refine r_not ?_
    exact ⟨h0_, h1_, h2_, h3_, fun _ => rfl, ⟨S2, hleR, e2, hI⟩⟩
  intro D d4_ d3_ d2_ d1_ d0_ x44 x43 x42 x41 x40 w_
  rintro ⟨h0_, h1_, h2_, h3_, h4_, ⟨S2, hleR, e2, hI⟩⟩
  obtain rfl := h4_ d4_
  obtain rfl := h3_ d3_
  have g2_ := h2_ d2_
  obtain rfl := h1_ d1_
  obtain rfl := h0_ d0_
  clear h0_ h1_ h2_ h3_ h4_
  clear e2
  refine condV (fun hb => by cases hb) (fun _ => ?_)
  exact doneS hI (hle.trans hleR) rfl
end

end Go.Proofs.Ytnoieadimkgjcaa
