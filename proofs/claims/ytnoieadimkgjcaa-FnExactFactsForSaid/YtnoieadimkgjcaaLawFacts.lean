/- FnExactFactsFor returns true, whatever facts and goal come in. -/
import Derived.Test.YtnoieadimkgjcaaLawT
import Derived.Test.YtnoieadimkgjcaaFacts2
namespace Go.Proofs.Ytnoieadimkgjcaa
open Go Go.RowKit
section
variable {w w0 : World} {X : List Nat} {L A : List Item} {S : Store} {K : Value → World → Prop}
attribute [local irreducible] Run CondV GuardV LoadV
theorem Run.toTerm1M {t : T} {cs : List Value} (hI : Inv w0 X L S w) (h : RdT S cs t) (hw : wT t ≤ 1048576)
    (hk : ∀ cs' M S' w', Sle S S' → RdT S' cs' t → TrT M cs' t → Inv w0 X L S' w' → (∀ B w'', Inv w0 X B S' w'' → Inv w0 X (B ++ blks M) S w'') → K (.agg cs'.toArray) w') :
    Run Try.prog (sCall (.func (.func n_l_toTerm) #[] #[]) [.agg cs.toArray]) w K := by
  refine Run.call0 fn_l_toTerm nm_l_toTerm hI (toTerm_calls _ S _ h hw) fun v' I' S' w' => ?_
  rintro ⟨rfl, cs', M, rfl, rfl, hT⟩ _ hI
  obtain ⟨S2, hle, hins, hI, hb⟩ := Inv.lendAll M hI
  exact hk _ M _ _ hle (hT.rd hins) hT hI hb
theorem Run.mark1 {t : T} {cs : List Value} {M : Heaplet} {k : Int} (hI : Inv w0 X (A ++ blks M) S w) (hT : TrT M cs t) (hk0 : 0 ≤ k) (hk1 : k + 3 * cntL t.kids ≤ 4611686018427387904)
    (hk : ∀ w', Inv w0 X A S w' → K (.int .i64 (k + 3 * cntL t.kids)) w') : Run Try.prog (sCall (.func (.func n_l_markTerm) #[] #[]) [.agg cs.toArray, .int .i64 k]) w K := by
  refine Run.call fn_l_markTerm nm_l_markTerm hI (markTerm_calls hT hk0 hk1) fun v' I' S' w' => ?_
  rintro ⟨rfl, rfl⟩ _ hI
  rw [mkL_end]
  exact hk _ (hI.sub (List.sublist_append_left _ _))
theorem Run.pubTreeT {f : FuncId} {fn : Func} {args : List Value} {ys : List T} (hf : Try.prog.funcs[f]? = some fn) (hn : (fn.name == "runtime.NumGoroutine" || fn.body.isNone) = false) (hI : Inv w0 X L S w)
    (hc : Tri Try.prog f args [] S (PostS 4 TrT S ys)) (hk : ∀ u S' w', Sle S S' → RdSl S' 4 (RdT S') u ys → Inv w0 X L S' w' → K u w') : Run Try.prog (sCall (.func (.func f) #[] #[]) args) w K := by
  refine Run.call0 hf hn hI hc fun v' I' S' w' => ?_
  rintro ⟨rfl, M, rfl, hT⟩ _ hI
  obtain ⟨S1, hle, hins, hI, _⟩ := Inv.lendAll M hI
  exact hk _ _ _ hle (hT.rd hins fun _ _ _ hi h => h.rd hi) hI
end
def IsTm (S : Store) (t : T) (v : Value) : Prop := ∃ cs, v = .agg cs.toArray ∧ RdT S cs t
theorem IsTm.mono {S S' : Store} {t : T} {v : Value} (hs : Sle S S') (h : IsTm S t v) : IsTm S' t v := by
  obtain ⟨u, hx, hr⟩ := h
  exact ⟨u, hx, hr.mono hs⟩
section
attribute [local irreducible] Run CondV GuardV LoadV
theorem cntT_wT (t : T) : cntT t ≤ 1 + (wT t : Int) := by
  have := cnt_wL [t]
  simp only [cntL, wL, List.length_cons, List.length_nil] at this
  omega
theorem cntT_kids (t : T) : cntT t = 1 + cntL t.kids := by
  cases t; rfl
theorem lawFacts_calls {l : List T} {g : T} {S : Store} {v : Value} {cs : List Value} (h : RdSl S 4 (RdT S) v l) (hg : RdT S cs g) : Pure Try.prog n_l_FnExactFactsFor [v, .agg cs.toArray] S (.bool true) := by
  intro w hI
  have hlg := hg.length
  refine calls_l_FnExactFactsFor ?_
  unfold sh_l_FnExactFactsFor
  refine r_box hI fun b3 w' hI => ?_
  have hI : Inv w [] [.blk b3 (.cells cs.toArray t_lTerm)] S w' := hI
  refine Run.callPure fn_l_szTermS nm_l_szTermS hI (szTermS_calls h (by omega) (by omega)) fun w' hI => ?_
  refine r_lss ?_
  refine condP (fun _ => done hI rfl) (fun hsz => ?_)
  have hw := sz_wTs (ts := l) (left := 1048576) (by omega)
  have hle0 := (szTs_le l 1048576 (by omega)).2
  refine r_loadW hI 0 ag_lTerm rfl (by simpa using hlg) ?_
  refine Run.callPure fn_l_szTerm nm_l_szTerm hI (szTerm_calls _ S _ _ hg (by omega) (by omega)) fun w' hI => ?_
  refine r_lss ?_
  refine condP (fun _ => done hI rfl) (fun hsz2 => ?_)
  have hw2 := sz_wT g (szTs l 1048576) (by omega) (by omega)
  have hw : l.length + wL l ≤ 1048576 := by omega
  have hw2 : wT g ≤ 1048576 := by omega
  have hcg := cntT_wT g
  have hck := cntT_kids g
  have hck0 := cntL_pos g.kids
  have hcl := cnt_wL l
  have hcl0 := cntL_pos l
  have hll := factsL_w l g
  have hrn := cnt_wL (factsL l g)
  have hrp := cntL_pos (factsL l g)
  have hs : ∀ {S : Store} {v : Value} {cs : List Value}, RdSl S 4 (RdT S) v l → RdT S cs g → Tri Try.prog n_s_FactsFor [v, .agg cs.toArray] [] S (PostS 4 TrT S (factsL l g)) := fun a b => s_FactsFor_calls a b hw (by omega)
  have hi : ∀ {S : Store} {v : Value} {cs : List Value}, RdSl S 4 (RdT S) v l → RdT S cs g → Tri Try.prog n_i_FactsFor [v, .agg cs.toArray] [] S (PostS 4 TrT S (factsL l g)) := fun a b => i_FactsFor_calls a b hw
  generalize factsL l g = r at hll hrn hrp hs hi
  refine ⟨fun D x6 x28 x27 x26 x25 x24 w_ => (D 0 = true → x24 = v) ∧ (D 1 = true → True) ∧ (D 2 = true → x26 = .agg cs.toArray) ∧ (D 3 = true → True) ∧ (D 4 = true → True) ∧ (D 5 = true → True) ∧ ∃ S1, Sle S S1 ∧ (D 1 = true → RdSl S1 4 (RdT S1) x25 l) ∧ (D 3 = true → IsTm S1 g x27) ∧ (D 4 = true → RdSl S1 4 (RdT S1) x28 r) ∧ (D 5 = true → RdSl S1 4 (RdT S1) x6 r) ∧ Inv w [] [.blk b3 (.cells cs.toArray t_lTerm)] S1 w_, ⟨fun h => Bool.noConfusion h, fun h => Bool.noConfusion h, fun h => Bool.noConfusion h, fun h => Bool.noConfusion h, fun h => Bool.noConfusion h, fun h => Bool.noConfusion h, ⟨S, Sle.refl _, fun h => Bool.noConfusion h, fun h => Bool.noConfusion h, fun h => Bool.noConfusion h, fun h => Bool.noConfusion h, hI.draw⟩⟩, ⟨?_, ?_, ?_, ?_, ?_, ?_, trivial⟩, ?_⟩
  · intro D hD_  x6 x28 x27 x26 x25 x24 w_
    rintro ⟨h0_, h1_, h2_, h3_, h4_, h5_, ⟨S1, hleR, e1, e3, e4, e5, hI⟩⟩
    exact ⟨fun _ => rfl, h1_, h2_, h3_, h4_, h5_, ⟨S1, hleR, e1, e3, e4, e5, hI⟩⟩
  · intro D hD_ d0_0 x6 x28 x27 x26 x25 x24 w_
    rintro ⟨h0_, h1_, h2_, h3_, h4_, h5_, ⟨S1, hleR, e1, e3, e4, e5, hI⟩⟩
    obtain rfl := h0_ d0_0
    refine Run.toTermS hI (h.monoT (hleR)) hw fun v1 S1 w_ hle1 h1 hI => ?_
    have hleR := hleR.trans hle1
    have e3 := fun (e : setD D 1 3 = true) => (e3 e).mono hle1
    have e4 := fun (e : setD D 1 4 = true) => (e4 e).monoT hle1
    have e5 := fun (e : setD D 1 5 = true) => (e5 e).monoT hle1
    have e1 := fun (_ : setD D 1 1 = true) => h1
    exact ⟨h0_, fun _ => by first | assumption | trivial, h2_, h3_, h4_, h5_, ⟨S1, hleR, e1, e3, e4, e5, hI⟩⟩
  · intro D hD_  x6 x28 x27 x26 x25 x24 w_
    rintro ⟨h0_, h1_, h2_, h3_, h4_, h5_, ⟨S1, hleR, e1, e3, e4, e5, hI⟩⟩
    refine r_loadW hI 0 ag_lTerm rfl (by simpa using hlg) ?_
    exact ⟨h0_, h1_, fun _ => rfl, h3_, h4_, h5_, ⟨S1, hleR, e1, e3, e4, e5, hI⟩⟩
  · intro D hD_ d2_0 d1_1 x6 x28 x27 x26 x25 x24 w_
    rintro ⟨h0_, h1_, h2_, h3_, h4_, h5_, ⟨S1, hleR, e1, e3, e4, e5, hI⟩⟩
    obtain rfl := h2_ d2_0
    refine Run.toTerm hI (hg.mono (hleR)) hw2 fun cs1 S1 w_ hle1 h1 hI => ?_
    have hleR := hleR.trans hle1
    have e1 := fun (e : setD D 3 1 = true) => (e1 e).monoT hle1
    have e4 := fun (e : setD D 3 4 = true) => (e4 e).monoT hle1
    have e5 := fun (e : setD D 3 5 = true) => (e5 e).monoT hle1
    have e3 := fun (_ : setD D 3 3 = true) => (⟨cs1, rfl, h1⟩ : IsTm S1 g (.agg cs1.toArray))
    exact ⟨h0_, h1_, h2_, fun _ => by first | assumption | trivial, h4_, h5_, ⟨S1, hleR, e1, e3, e4, e5, hI⟩⟩
  · intro D hD_ d1_0 d3_1 d3_2 x6 x28 x27 x26 x25 x24 w_
    rintro ⟨h0_, h1_, h2_, h3_, h4_, h5_, ⟨S1, hleR, e1, e3, e4, e5, hI⟩⟩
    have g1_ := h1_ d1_0
    have g3_ := h3_ d3_1
    obtain ⟨q3, rfl, hq3⟩ := e3 d3_1
    refine Run.pubTreeT fn_s_FactsFor nm_s_FactsFor hI (hs (e1 d1_0) hq3) fun u2 S1 w_ hle2 h2 hI => ?_
    have hleR := hleR.trans hle2
    have e1 := fun (e : setD D 4 1 = true) => (e1 e).monoT hle2
    have e3 := fun (e : setD D 4 3 = true) => (e3 e).mono hle2
    have e5 := fun (e : setD D 4 5 = true) => (e5 e).monoT hle2
    have e4 := fun (_ : setD D 4 4 = true) => h2
    exact ⟨h0_, h1_, h2_, h3_, fun _ => by first | assumption | trivial, h5_, ⟨S1, hleR, e1, e3, e4, e5, hI⟩⟩
  · intro D hD_ d4_0 d4_1 d0_2 d1_3 d2_4 d3_5 d4_6 x6 x28 x27 x26 x25 x24 w_
    rintro ⟨h0_, h1_, h2_, h3_, h4_, h5_, ⟨S1, hleR, e1, e3, e4, e5, hI⟩⟩
    have g4_ := h4_ d4_0
    have e5 := fun (_ : setD D 5 5 = true) => e4 d4_0
    exact ⟨h0_, h1_, h2_, h3_, h4_, fun _ => by first | assumption | trivial, ⟨S1, hleR, e1, e3, e4, e5, hI⟩⟩
  intro D d5_ d4_ d3_ d2_ d1_ d0_ x6 x28 x27 x26 x25 x24 w_
  rintro ⟨h0_, h1_, h2_, h3_, h4_, h5_, ⟨S1, hleR, e1, e3, e4, e5, hI⟩⟩
  have g5_ := h5_ d5_
  have g4_ := h4_ d4_
  have g3_ := h3_ d3_
  obtain rfl := h2_ d2_
  have g1_ := h1_ d1_
  obtain rfl := h0_ d0_
  clear h0_ h1_ h2_ h3_ h4_ h5_
  have h2 := e5 d5_
  have hle := hleR
  clear e1 e3 e4 e5 hleR
  refine Run.toTermM hI (h.monoT hle) hw fun v3 M S2 w' hle2 h3 hT hI hback => ?_
  refine r_loadW hI 0 ag_lTerm rfl (by simpa using hlg) ?_
  refine Run.toTerm1M hI (hg.mono (hle.trans hle2)) hw2 fun es N S3 w' hle3 hg3 hTN hI hback2 => ?_
  have hle4 := hg3.length
  have h3 := h3.monoT hle3
  refine r_alloc hI zo_iTerm fun b8 w' hI => ?_
  refine r_storeW hI 1 rfl ag_iTerm (by simpa using hle4) rfl (by simpa using hg3.one) fun w' hI => ?_
  have hI : Inv w [] [.blk b3 (.cells cs.toArray t_lTerm), .blk b8 (.cells es.toArray t_iTerm)] S3 w' := hI
  refine r_loadW hI 1 ag_iTerm rfl (by simpa using hle4) ?_
  refine Run.call0 fn_i_FactsFor nm_i_FactsFor hI (hi h3 hg3) fun v4 I' S3 w' => ?_
  rintro ⟨rfl, G, rfl, hG⟩ _ hI
  refine Run.eqTreeT (A := [_, _]) hI hG (h2.monoT (hle2.trans hle3)) fun w' hI => ?_
  refine r_not ?_
  refine condV (fun hb => by simp at hb) (fun _ => ?_)
  refine Run.toTermS hI (h.monoT (hle.trans (hle2.trans hle3))) hw fun v5 S5 w' hle5 h5 hI => ?_
  refine Run.callPure fn_l_eqTermS nm_l_eqTermS hI (eqTermS_calls (h3.monoT hle5) h5) fun w' hI => ?_
  refine r_not ?_
  rw [(eqL_iff l l).2 rfl]
  refine condV (fun hb => by simp at hb) (fun _ => ?_)
  refine ⟨fun D x49 x48 x47 x46 x45 w_ => (D 0 = true → x45 = .agg es.toArray) ∧ (D 1 = true → x46 = .agg cs.toArray) ∧ (D 2 = true → True) ∧ (D 3 = true → x48 = .bool true) ∧ (D 4 = true → x49 = .bool false) ∧ ∃ S6, Sle S5 S6 ∧ (D 2 = true → IsTm S6 g x47) ∧ Inv w [] ([.blk b3 (.cells cs.toArray t_lTerm), .blk b8 (.cells es.toArray t_iTerm)] ++ blks G) S6 w_, ⟨fun h => Bool.noConfusion h, fun h => Bool.noConfusion h, fun h => Bool.noConfusion h, fun h => Bool.noConfusion h, fun h => Bool.noConfusion h, ⟨S5, Sle.refl _, fun h => Bool.noConfusion h, hI.draw⟩⟩, ⟨?_, ?_, ?_, ?_, ?_, trivial⟩, ?_⟩
  · intro D hD_  x49 x48 x47 x46 x45 w_
    rintro ⟨h0_, h1_, h2_, h3_, h4_, ⟨S6, hleR, e2, hI⟩⟩
    refine r_loadW hI 1 ag_iTerm rfl (by simpa using hle4) ?_
    exact ⟨fun _ => rfl, h1_, h2_, h3_, h4_, ⟨S6, hleR, e2, hI⟩⟩
  · intro D hD_  x49 x48 x47 x46 x45 w_
    rintro ⟨h0_, h1_, h2_, h3_, h4_, ⟨S6, hleR, e2, hI⟩⟩
    refine r_loadW hI 0 ag_lTerm rfl (by simpa using hlg) ?_
    exact ⟨h0_, fun _ => rfl, h2_, h3_, h4_, ⟨S6, hleR, e2, hI⟩⟩
  · intro D hD_ d1_0 x49 x48 x47 x46 x45 w_
    rintro ⟨h0_, h1_, h2_, h3_, h4_, ⟨S6, hleR, e2, hI⟩⟩
    obtain rfl := h1_ d1_0
    refine Run.toTerm hI (hg.mono ((hle.trans (hle2.trans hle3)).trans (hle5.trans hleR))) hw2 fun cs1 S6 w_ hle1 h1 hI => ?_
    have hleR := hleR.trans hle1
    have e2 := fun (_ : setD D 2 2 = true) => (⟨cs1, rfl, h1⟩ : IsTm S6 g (.agg cs1.toArray))
    exact ⟨h0_, h1_, fun _ => by first | assumption | trivial, h3_, h4_, ⟨S6, hleR, e2, hI⟩⟩
  · intro D hD_ d0_0 d2_1 d2_2 x49 x48 x47 x46 x45 w_
    rintro ⟨h0_, h1_, h2_, h3_, h4_, ⟨S6, hleR, e2, hI⟩⟩
    obtain rfl := h0_ d0_0
    have g2_ := h2_ d2_1
    obtain ⟨q2, rfl, hq2⟩ := e2 d2_1
    refine Run.callPure fn_l_eqTerm nm_l_eqTerm hI (eqTerm_calls _ _ _ _ _ (hg3.mono (hle5.trans hleR)) hq2) fun w_ hI => ?_
    rw [(eqT_iff _ _).2 rfl]
    exact ⟨h0_, h1_, h2_, fun _ => rfl, h4_, ⟨S6, hleR, e2, hI⟩⟩
  · intro D hD_ d3_0 x49 x48 x47 x46 x45 w_
    rintro ⟨h0_, h1_, h2_, h3_, h4_, ⟨S6, hleR, e2, hI⟩⟩
    obtain rfl := h3_ d3_0
    refine r_not ?_
    exact ⟨h0_, h1_, h2_, h3_, fun _ => rfl, ⟨S6, hleR, e2, hI⟩⟩
  intro D d4_ d3_ d2_ d1_ d0_ x49 x48 x47 x46 x45 w_
  rintro ⟨h0_, h1_, h2_, h3_, h4_, ⟨S6, hleR, e2, hI⟩⟩
  obtain rfl := h4_ d4_
  obtain rfl := h3_ d3_
  have g2_ := h2_ d2_
  obtain rfl := h1_ d1_
  obtain rfl := h0_ d0_
  clear h0_ h1_ h2_ h3_ h4_
  clear e2
  refine condV (fun hb => by cases hb) (fun _ => ?_)
  have hI := hback _ _ (hback2 _ _ (hI.less (hle5.trans hleR)))
  refine Run.markL hI hT (by omega) (by omega) fun w' hI => ?_
  refine r_loadW hI 1 ag_iTerm rfl (by simpa using hle4) ?_
  refine Run.mark1 hI hTN (by omega) (by omega) fun w' hI => ?_
  refine ⟨fun t w' => t = .bool false ∧ Inv w [] ([.blk b3 (.cells cs.toArray t_lTerm), .blk b8 (.cells es.toArray t_iTerm)] ++ blks G) S1 w', ?_, ?_⟩
  · refine r_lss ?_
    rw [decide_eq_false (by omega)]
    repeat (first | refine guard_true ?_ | refine guard_ne (by decide) ?_ | refine guard_undef ?_ | refine r_pickT ?_ | refine r_pickF ?_)
    refine Run.eqTreeT (A := [_, _]) hI hG h2 fun w' hI => ?_
    refine r_not ?_
    repeat (first | refine guard_true ?_ | refine guard_ne (by decide) ?_ | refine guard_undef ?_ | refine r_pickT ?_ | refine r_pickF ?_)
    exact ⟨rfl, hI⟩
  intro t _ _ _ _ _ _ _ w'
  rintro ⟨rfl, hI⟩
  refine condV (fun hb => by cases hb) (fun _ => ?_)
  refine Run.markTreeT hI hG (by omega) (by omega) fun G' w' hG' hI => ?_
  refine Run.heldTreeT hI hG' (by omega) (by omega) fun w' hI => ?_
  refine r_lss ?_
  refine condP (fun hb => by omega) (fun _ => ?_)
  refine r_neq ?_
  refine condV (fun hb => by simp at hb) (fun _ => ?_)
  clear hleR
  refine ⟨fun D x13 x79 x78 x77 x76 x75 w_ => (D 0 = true → x75 = x24) ∧ (D 1 = true → True) ∧ (D 2 = true → x77 = .agg cs.toArray) ∧ (D 3 = true → True) ∧ (D 4 = true → True) ∧ (D 5 = true → True) ∧ ∃ S7, Sle S1 S7 ∧ (D 1 = true → RdSl S7 4 (RdT S7) x76 l) ∧ (D 3 = true → IsTm S7 g x78) ∧ (D 4 = true → RdSl S7 4 (RdT S7) x79 r) ∧ (D 5 = true → RdSl S7 4 (RdT S7) x13 r) ∧ Inv w [] (([.blk b3 (.cells cs.toArray t_lTerm), .blk b8 (.cells es.toArray t_iTerm)]) ++ blks G') S7 w_, ⟨fun h => Bool.noConfusion h, fun h => Bool.noConfusion h, fun h => Bool.noConfusion h, fun h => Bool.noConfusion h, fun h => Bool.noConfusion h, fun h => Bool.noConfusion h, ⟨S1, Sle.refl _, fun h => Bool.noConfusion h, fun h => Bool.noConfusion h, fun h => Bool.noConfusion h, fun h => Bool.noConfusion h, hI.draw⟩⟩, ⟨?_, ?_, ?_, ?_, ?_, ?_, trivial⟩, ?_⟩
  · intro D hD_  x13 x79 x78 x77 x76 x75 w_
    rintro ⟨h0_, h1_, h2_, h3_, h4_, h5_, ⟨S7, hleR, e1, e3, e4, e5, hI⟩⟩
    exact ⟨fun _ => rfl, h1_, h2_, h3_, h4_, h5_, ⟨S7, hleR, e1, e3, e4, e5, hI⟩⟩
  · intro D hD_ d0_0 x13 x79 x78 x77 x76 x75 w_
    rintro ⟨h0_, h1_, h2_, h3_, h4_, h5_, ⟨S7, hleR, e1, e3, e4, e5, hI⟩⟩
    obtain rfl := h0_ d0_0
    refine Run.toTermS hI (h.monoT (hle.trans hleR)) hw fun v1 S7 w_ hle1 h1 hI => ?_
    have hleR := hleR.trans hle1
    have e3 := fun (e : setD D 1 3 = true) => (e3 e).mono hle1
    have e4 := fun (e : setD D 1 4 = true) => (e4 e).monoT hle1
    have e5 := fun (e : setD D 1 5 = true) => (e5 e).monoT hle1
    have e1 := fun (_ : setD D 1 1 = true) => h1
    exact ⟨h0_, fun _ => by first | assumption | trivial, h2_, h3_, h4_, h5_, ⟨S7, hleR, e1, e3, e4, e5, hI⟩⟩
  · intro D hD_  x13 x79 x78 x77 x76 x75 w_
    rintro ⟨h0_, h1_, h2_, h3_, h4_, h5_, ⟨S7, hleR, e1, e3, e4, e5, hI⟩⟩
    refine r_loadW hI 0 ag_lTerm rfl (by simpa using hlg) ?_
    exact ⟨h0_, h1_, fun _ => rfl, h3_, h4_, h5_, ⟨S7, hleR, e1, e3, e4, e5, hI⟩⟩
  · intro D hD_ d2_0 d1_1 x13 x79 x78 x77 x76 x75 w_
    rintro ⟨h0_, h1_, h2_, h3_, h4_, h5_, ⟨S7, hleR, e1, e3, e4, e5, hI⟩⟩
    obtain rfl := h2_ d2_0
    refine Run.toTerm hI (hg.mono (hle.trans hleR)) hw2 fun cs1 S7 w_ hle1 h1 hI => ?_
    have hleR := hleR.trans hle1
    have e1 := fun (e : setD D 3 1 = true) => (e1 e).monoT hle1
    have e4 := fun (e : setD D 3 4 = true) => (e4 e).monoT hle1
    have e5 := fun (e : setD D 3 5 = true) => (e5 e).monoT hle1
    have e3 := fun (_ : setD D 3 3 = true) => (⟨cs1, rfl, h1⟩ : IsTm S7 g (.agg cs1.toArray))
    exact ⟨h0_, h1_, h2_, fun _ => by first | assumption | trivial, h4_, h5_, ⟨S7, hleR, e1, e3, e4, e5, hI⟩⟩
  · intro D hD_ d1_0 d3_1 d3_2 x13 x79 x78 x77 x76 x75 w_
    rintro ⟨h0_, h1_, h2_, h3_, h4_, h5_, ⟨S7, hleR, e1, e3, e4, e5, hI⟩⟩
    have g1_ := h1_ d1_0
    have g3_ := h3_ d3_1
    obtain ⟨q3, rfl, hq3⟩ := e3 d3_1
    refine Run.pubTreeT fn_i_FactsFor nm_i_FactsFor hI (hi (e1 d1_0) hq3) fun u2 S7 w_ hle2 h2 hI => ?_
    have hleR := hleR.trans hle2
    have e1 := fun (e : setD D 4 1 = true) => (e1 e).monoT hle2
    have e3 := fun (e : setD D 4 3 = true) => (e3 e).mono hle2
    have e5 := fun (e : setD D 4 5 = true) => (e5 e).monoT hle2
    have e4 := fun (_ : setD D 4 4 = true) => h2
    exact ⟨h0_, h1_, h2_, h3_, fun _ => by first | assumption | trivial, h5_, ⟨S7, hleR, e1, e3, e4, e5, hI⟩⟩
  · intro D hD_ d4_0 d4_1 d0_2 d1_3 d2_4 d3_5 d4_6 x13 x79 x78 x77 x76 x75 w_
    rintro ⟨h0_, h1_, h2_, h3_, h4_, h5_, ⟨S7, hleR, e1, e3, e4, e5, hI⟩⟩
    have g4_ := h4_ d4_0
    have e5 := fun (_ : setD D 5 5 = true) => e4 d4_0
    exact ⟨h0_, h1_, h2_, h3_, h4_, fun _ => by first | assumption | trivial, ⟨S7, hleR, e1, e3, e4, e5, hI⟩⟩
  intro D d5_ d4_ d3_ d2_ d1_ d0_ x13 x79 x78 x77 x76 x75 w_
  rintro ⟨h0_, h1_, h2_, h3_, h4_, h5_, ⟨S7, hleR, e1, e3, e4, e5, hI⟩⟩
  have g5_ := h5_ d5_
  have g4_ := h4_ d4_
  have g3_ := h3_ d3_
  obtain rfl := h2_ d2_
  have g1_ := h1_ d1_
  obtain rfl := h0_ d0_
  clear h0_ h1_ h2_ h3_ h4_ h5_
  have h7 := e5 d5_
  clear e1 e3 e4 e5
  refine Run.callPure fn_l_eqTermS nm_l_eqTermS hI (eqTermS_calls h7 (h2.monoT hleR)) fun w' hI => ?_
  rw [(eqL_iff r r).2 rfl]
  refine r_not ?_
  refine condV (fun hb => by cases hb) (fun _ => ?_)
  refine Run.heldTreeT hI hG' (by omega) (by omega) fun w' hI => ?_
  refine r_lss ?_
  refine condP (fun hb => by omega) (fun _ => ?_)
  refine r_neq ?_
  exact condV (fun hb => by simp at hb) (fun _ => doneS hI (hle.trans hleR) rfl)
end

end Go.Proofs.Ytnoieadimkgjcaa
