/- spec.RenumberClause: lists and clauses. -/
import Derived.Test.YtnoieadimkgjcaaZRen5
import Derived.Test.YtnoieadimkgjcaaZRen0
namespace Go.Proofs.Ytnoieadimkgjcaa
open Go Go.RowKit
section
variable {w : World} {K : Value → World → Prop}
attribute [local irreducible] Run
theorem r_buildClause0 (hk : K (.agg #[.int .i64 0, .int .i64 0, .string ⟨#[]⟩, .slice none 0 0, .slice none 0 0]) w) : Run Try.prog (sBuild t_iClause []) w K := by
  refine Run.of (v := .agg #[.int .i64 0, .int .i64 0, .string ⟨#[]⟩, .slice none 0 0, .slice none 0 0]) (w' := w) ?_ hk
  unfold sBuild
  rw [Sem.run_bind, run_build w t_iClause _ #[.int .i64 0, .int .i64 0, .string ⟨#[]⟩, .slice none 0 0, .slice none 0 0] (by kernel_rfl), Result.andThen_ok]
  rfl
end
/- a tree of one's own, published -/
theorem Inv.pubExt {w0 w : World} {A : List Item} {S : Store} {L : Heaplet} (h : Inv w0 [] (A ++ blks L) S w) :
    ∃ S', Inv w0 [] A S' w ∧ Ext w0.heap.size [] S S' ∧ Ins S' L := by
  obtain ⟨S', h1, h2, h3, h4⟩ := h.publishAll L
  refine ⟨S', h1, ⟨h2, fun b o hb => ?_⟩, h3⟩
  rcases h4 b o hb with h5 | h5
  · exact .inl h5
  · right
    exact h.new b (by rw [feet_append]; exact List.mem_append_right _ h5)
theorem Rows.one {α : Type} {k : Nat} {R : List Value → α → Prop} {cs : List Value} {y : α} (hR : R cs y) (hl : cs.length = k) : Rows k R [cs] [y] := by
  have := (Rows.nil k R).snoc hR hl
  exact this
theorem svars_split (ts : List T) (j : Nat) (h : j < ts.length) (l : List Int) : svarsL (ts.drop j) l = svarsL (ts.drop (j + 1)) (svarsT ts[j] l) := by
  rw [List.drop_eq_getElem_cons h, svarsL]
section
variable {P : Program} {w w0 : World} {X : List Nat} {L : List Item} {S : Store} {K : Value → World → Prop}
theorem Run.call0E {f : FuncId} {fn : Func} {args : List Value} {Post : Value → List Item → Store → Prop}
    (hf : P.funcs[f]? = some fn) (hn : (fn.name == "runtime.NumGoroutine" || fn.body.isNone) = false) (h : Inv w0 X L S w) (hc : Tri P f args [] S Post)
    (hk : ∀ v I' S' w', Post v I' S' → Ext w0.heap.size X S S' → Inv w0 X (L ++ I') S' w' → K v w') : Run P (sCall (.func (.func f) #[] #[]) args) w K := by
  refine Run.callP hf hn ((hc w h.nil.begin).mono ?_)
  rintro e w' ⟨v, I', S', rfl, hI, hE, hP⟩
  refine hk v I' S' w' hP ⟨hE.1, fun b o hb => ?_⟩ (Inv.step (A := L) (B := []) (by simpa using h) hI hE.2)
  rcases hE.2 b o hb with h1 | h1 | h1
  · exact .inl h1
  · simp [feet] at h1
  · exact .inr (.inr (Nat.le_trans h.size h1))
end
theorem Ext.trans {n : Nat} {Y : List Nat} {S S' S'' : Store} (h : Ext n Y S S') (h' : Ext n Y S' S'') : Ext n Y S S'' := by
  refine ⟨h.1.trans h'.1, fun b o hb => ?_⟩
  rcases h'.2 b o hb with h1 | h1
  · exact h.2 b o h1
  · exact .inr h1
section
attribute [local irreducible] Run CondV GuardV LoadV
theorem l1Renumber_calls {ts : List T} {S : Store} {v : Value} (h : RdSl S 4 (RdT S) v ts) (hw : ts.length + wL ts ≤ 1048577) : Tri Try.prog n_s_l1Renumber [v] [] S (PostS 4 TrT S (srenL (svarsL ts []) ts)) := by
  intro w hI
  have hlen := h.le
  simp only [maxLen] at hlen
  have hcl := cnt_wL ts
  refine calls_s_l1Renumber ?_
  unfold sh_s_l1Renumber
  refine r_slice0 hI mk_Sint fun v0 w' hI => ?_
  refine ⟨fun i t w' => ∃ (j : Nat) (l : List Int), j ≤ ts.length ∧ i = .int .i64 j ∧ svarsL (ts.drop j) l = svarsL ts [] ∧ l.length + cntL (ts.drop j) ≤ 3000000 ∧ Inv w [] [rowI t l] S w',
    fun i _ _ => ts.length - (intOf i).toNat, ⟨0, [], Nat.zero_le _, rfl, rfl, by simp only [List.drop_zero, List.length_nil]; omega, hI⟩, ?_⟩
  intro t4 _ _ t3 _ _ _ _ _ _ _ _ _ _ w'
  rintro ⟨j, l, hj, rfl, hvs, hl, hI⟩
  refine r_lenSl h sl_SiTerm ?_
  refine r_lss ?_
  refine condP (fun hji => ?_) (fun hji => ?_)
  · have hj' : j < ts.length := by omega
    rw [cntL_split ts j hj'] at hl
    rw [svars_split ts j hj'] at hvs
    have hc1 := cntL_pos (ts.drop (j + 1))
    have hc2 := svarsT_le ts[j] l
    refine r_elem hI h sl_SiTerm ag_iTerm hj' (fun _ _ => RdT.length) fun cs' hcs' => ?_
    refine Run.call (A := []) fn_s_l1Vars nm_s_l1Vars hI (l1Vars_calls _ S cs' t3 l hcs' (by omega)) fun v' I' S' w' => ?_
    rintro ⟨rfl, rfl⟩ _ hI
    refine r_add (by omega) ?_
    exact ⟨⟨j + 1, _, hj', rfl, hvs, by omega, hI⟩, by simp [intOf]; omega⟩
  have : j = ts.length := by omega
  subst this
  rw [List.drop_length, svarsL] at hvs
  rw [List.drop_length] at hl
  subst hvs
  have hl' : (svarsL ts []).length ≤ 1000000000 := by
    have : cntL ([] : List T) = 0 := rfl
    omega
  clear hl
  generalize svarsL ts [] = vs at hI hl' ⊢
  obtain ⟨S1, hle1, hrd, hI, _⟩ := Inv.lend (A := []) hI
  have hrd := hrd.ints
  have h := h.mono hle1 fun _ _ h => h.mono hle1
  refine r_slice0 hI mk_SiTerm fun v1 w' hI => ?_
  refine ⟨fun i t w' => ∃ (k : Nat) (Ls : List Heaplet) (css : List (List Value)), k ≤ ts.length ∧ i = .int .i64 k ∧ Grown 4 TrT Ls css (srenL vs (ts.take k)) ∧ Inv w [] (rowG t t_iTerm 4 css :: blks Ls.flatten) S1 w',
    fun i _ _ => ts.length - (intOf i).toNat, ⟨0, [], [], Nat.zero_le _, rfl, Grown.nil _ _, hI⟩, ?_⟩
  intro t6 _ _ t5 _ _ _ _ _ _ _ _ _ _ _ _ _ w'
  rintro ⟨k, Ls, css, hk, rfl, hg, hI⟩
  refine r_lenSl h sl_SiTerm ?_
  refine r_lss ?_
  refine condP (fun hki => ?_) (fun hki => ?_)
  · have hk' : k < ts.length := by omega
    have htl : (ts.take k).length = k := by simp; omega
    have hcl := hg.hc
    rw [srenL_len] at hcl
    have hm := List.getElem_mem hk'
    have hwm := wL_mem hm
    refine r_elem hI h sl_SiTerm ag_iTerm hk' (fun _ _ => RdT.length) fun cs hcs => ?_
    refine Run.call0 fn_s_l1Rename nm_s_l1Rename hI (l1Rename_calls vs hl' _ S1 cs _ hcs hrd (by omega)) fun v' I' S' w' => ?_
    rintro ⟨rfl, cs', L, rfl, rfl, hT⟩ _ hI
    refine r_append1 hI 0 cs' mk_SiTerm (by omega) (by omega) rfl hT.length hT.one (by omega) (by omega) fun v' w' hI => ?_
    refine r_add (by omega) ?_
    refine ⟨⟨k + 1, Ls ++ [L], css ++ [cs'], hk', rfl, ?_, ?_⟩, by simp [intOf]; omega⟩
    · rw [srenL_take vs ts k hk']
      exact hg.snoc hT hT.length
    · simp only [List.flatten_append, List.flatten_cons, List.flatten_nil, List.append_nil, blks_append]
      exact hI
  · have : k = ts.length := by omega
    subst this
    rw [List.take_length] at hg
    obtain ⟨L, hT, hI⟩ := Inv.rowTree (A := []) hI hg
    exact ⟨_, _, _, rfl, hI.less hle1, Ext.refl _ _ _, rfl, _, rfl, hT⟩
abbrev PostR (c : C) : Value → List Item → Store → Prop := fun v I' S' => I' = [] ∧ ∃ cs, v = .agg cs.toArray ∧ RdC S' cs c
abbrev PostRB (c : C) (ok : Bool) : Value → List Item → Store → Prop := fun v I' S' => I' = [] ∧ ∃ cs, v = .tuple #[.agg cs.toArray, .bool ok] ∧ RdC S' cs c
theorem l4Renumber_calls {c : C} {S : Store} {cs : List Value} (h : RdC S cs c) (hw : wC c ≤ 1048576) : Tri Try.prog n_s_l4Renumber [.agg cs.toArray] [] S (PostR (numC (cvars c) c)) := by
  intro w hI
  obtain ⟨hd, ks, rfl, h1, h2⟩ := h
  have h1' := h1
  obtain ⟨kv, rfl, g1, g2, g3, g4⟩ := RdT.iff.1 h1
  have hlen := h2.le
  simp only [maxLen] at hlen
  unfold wC at hw
  refine calls_s_l4Renumber ?_
  unfold sh_s_l4Renumber
  refine r_box hI fun b1 w' hI => ?_
  refine r_alloc hI zo_iClause fun b2 w' hI => ?_
  refine r_field fo_iClause_0 ?_
  refine r_loadLA hI 0 [.int .i64 c.head.kind, .int .i64 c.head.n, .string c.head.name, kv] ag_iTerm rfl rfl sub4 ?_
  refine r_slice1 hI mk_SiTerm (by simp [Value.cells]) (by omega) (by omega) fun b7 w' hI => ?_
  refine r_fieldL hI 0 rfl fo_iClause_1 sc_SiTerm rfl ?_
  have hI := Inv.closeRow (A := [_, _]) (cap := 1) (k := 4) (n := 1) hI (by omega) (by simp [maxLen]) (by simp [Value.cells])
  refine r_appendRd hI 2 (css := [[.int .i64 c.head.kind, .int .i64 c.head.n, .string c.head.name, kv]]) mk_SiTerm (by omega) rfl h2 (fun _ _ => RdT.length) (fun _ _ => RdT.one) (by simp; omega) (by omega) fun v' w' css2 hR hI => ?_
  have hR := (Rows.one h1' h1'.length).append hR
  obtain ⟨S1, hle1, hrd, hI, _⟩ := Inv.lend (A := [_, _]) hI
  have hts : RdSl S1 4 (RdT S1) v' (c.head :: c.body) := (RowRd.rows hR hrd).mono (Sle.refl _) fun _ _ h => h.mono hle1
  refine Run.call0 fn_s_l1Renumber nm_s_l1Renumber hI (l1Renumber_calls hts (by simp only [wL, List.length_cons]; omega)) fun v11 I' S' w' => ?_
  rintro ⟨rfl, M, rfl, hT⟩ _ hI
  obtain ⟨S2, hI, hE, hins⟩ := (hI.less hle1).pubExt
  have hr := hT.rd hins fun _ _ _ hi h => h.rd hi
  rw [srenL] at hr
  refine r_elem (i := 0) hI hr sl_SiTerm ag_iTerm (by simp) (fun _ _ => RdT.length) fun cs' hcs' => ?_
  rw [List.getElem_cons_zero] at hcs'
  have hcs0 := hcs'
  obtain ⟨kv', rfl, f1, f2, f3, f4⟩ := RdT.iff.1 hcs'
  refine r_buildHead ?_
  refine r_alloc hI zo_iClause fun b4 w' hI => ?_
  obtain ⟨ka, kn, kc, hk'⟩ : ∃ a n m, kv' = .slice a n m := by
    obtain ⟨a, m, e, _⟩ := f4
    exact ⟨_, _, _, e⟩
  refine r_storeW hI 2 rfl ag_iClause rfl rfl (by simp [Value.oneCell', hk']) fun w' hI => ?_
  refine ⟨fun w' => ∃ kb, RdSl S2 4 (RdT S2) kb (srenL (cvars c) c.body) ∧ Inv w [] [.blk b1 (.cells #[.int .i64 c.head.kind, .int .i64 c.head.n, .string c.head.name, kv, ks] t_iClause), .blk b2 (.cells #[.int .i64 0, .int .i64 0, .string ⟨#[]⟩, .slice none 0 0, .slice none 0 0] t_iClause),
      .blk b4 (.cells #[.int .i64 (srenT (cvars c) c.head).kind, .int .i64 (srenT (cvars c) c.head).n, .string (srenT (cvars c) c.head).name, kv', kb] t_iClause)] S2 w', ?_, ?_⟩
  · refine r_fieldL hI 0 rfl fo_iClause_1 sc_SiTerm rfl ?_
    refine r_lenSl h2 sl_SiTerm ?_
    refine r_gtr ?_
    refine condP (fun hb => ?_) (fun hb => ?_)
    · refine r_sliceFrom (l := 1) sl_SiTerm hr (by simp) fun kb hkb => ?_
      rw [List.drop_succ_cons, List.drop_zero] at hkb
      obtain ⟨a, m, e, _⟩ := id hkb
      subst e
      exact r_fieldSt hI 2 rfl fo_iClause_1 sc_SiTerm rfl rfl rfl fun w' hI => ⟨_, hkb, hI⟩
    · have : c.body = [] := List.eq_nil_of_length_eq_zero (by omega)
      refine ⟨_, ?_, hI⟩
      rw [this]
      exact ⟨none, 0, rfl, Nat.le_refl _, Nat.zero_le _, .inl rfl⟩
  intro _ _ _ _ _ _ _ w'
  rintro ⟨kb, hkb, hI⟩
  refine r_loadW hI 2 ag_iClause rfl rfl ?_
  obtain ⟨a, m, e, _⟩ := id hkb
  subst e
  refine r_storeW hI 1 rfl ag_iClause rfl rfl (by simp [Value.oneCell', hk']) fun w' hI => ?_
  refine loadV_W hI 1 ag_iClause rfl rfl ?_
  exact ⟨_, _, _, rfl, hI.pick [false, false, false], hE, rfl, _, rfl, ⟨_, _, rfl, hcs0, hkb⟩⟩
def numB (c : C) : C := if clauseB c = true then numC (cvars c) c else ⟨⟨0, 0, ⟨#[]⟩, []⟩, []⟩
theorem RdC.zero (S : Store) : RdC S [.int .i64 0, .int .i64 0, .string ⟨#[]⟩, .slice none 0 0, .slice none 0 0] ⟨⟨0, 0, ⟨#[]⟩, []⟩, []⟩ :=
  ⟨[.int .i64 0, .int .i64 0, .string ⟨#[]⟩, .slice none 0 0], .slice none 0 0, rfl, RdT.iff.2 ⟨_, rfl, by simp [inI, T.kind], by simp [inI, T.n], by rw [T.name]; decide +kernel, ⟨none, 0, rfl, Nat.le_refl _, Nat.zero_le _, .inl rfl⟩⟩, ⟨none, 0, rfl, Nat.le_refl _, Nat.zero_le _, .inl rfl⟩⟩
theorem s_RenumberClause_calls {c : C} {S : Store} {cs : List Value} (h : RdC S cs c) (hw : wC c ≤ 1048576) : Tri Try.prog n_s_RenumberClause [.agg cs.toArray] [] S (PostRB (numB c) (clauseB c)) := by
  intro w hI
  have h0 := h
  have hlc := h.length
  have hon := h.one
  refine calls_s_RenumberClause ?_
  unfold sh_s_RenumberClause
  refine r_box hI fun b1 w' hI => ?_
  refine r_alloc hI zo_iClause fun b2 w' hI => ?_
  refine r_loadW hI 0 ag_iClause rfl (by simpa [Value.cells] using hlc) ?_
  refine Run.callPure fn_s_ClauseValid nm_s_ClauseValid hI (sClauseValid_calls h0 hw) fun w' hI => ?_
  refine r_not ?_
  rw [numB]
  cases hv : clauseB c
  · refine condV (fun _ => ?_) (fun hb => by cases hb)
    refine r_buildClause0 ?_
    refine r_storeW hI 1 rfl ag_iClause rfl rfl (by simp [Value.oneCell']) fun w' hI => ?_
    refine loadV_W hI 1 ag_iClause rfl rfl ?_
    exact ⟨_, _, _, rfl, hI.pick [false, false], Ext.refl _ _ _, rfl, _, rfl, RdC.zero S⟩
  refine condV (fun hb => by cases hb) (fun _ => ?_)
  refine r_loadW hI 0 ag_iClause rfl (by simpa [Value.cells] using hlc) ?_
  refine Run.call0E fn_s_l4Renumber nm_s_l4Renumber hI (l4Renumber_calls h0 hw) fun v I' S' w' => ?_
  rintro ⟨rfl, cs', rfl, hR⟩ hE hI
  refine r_storeW hI 1 rfl ag_iClause (by simpa using hR.length) rfl (by simpa using hR.one) fun w' hI => ?_
  refine loadV_W hI 1 ag_iClause rfl (by simpa using hR.length) ?_
  exact ⟨_, _, _, rfl, hI.pick [false, false], hE, rfl, _, rfl, hR⟩
end

end Go.Proofs.Ytnoieadimkgjcaa

/- slices.Clone and slices.DeleteFunc of terms. -/
namespace Go.Proofs.Ytnoieadimkgjcaa
open Go Go.RowKit

theorem indexF_pure {α : Type} (p : α → Bool) : ∀ (xs : List α) (k : Nat), ((indexF (σ := Unit) (fun _ x => (p x, ())) () xs k).1 = -1 ∧ xs.filter (fun x => !p x) = xs) ∨
    ∃ j, ∃ h : j < xs.length, (indexF (σ := Unit) (fun _ x => (p x, ())) () xs k).1 = ((k + j : Nat) : Int) ∧ p xs[j] = true ∧ (xs.take j).filter (fun x => !p x) = xs.take j
  | [], k => .inl ⟨rfl, rfl⟩
  | x :: xs, k => by
    rw [indexF]
    cases hp : p x with
    | true => exact .inr ⟨0, by simp, by simp, by simpa using hp, by simp⟩
    | false =>
      rcases indexF_pure p xs (k + 1) with ⟨h1, h2⟩ | ⟨j, hj, h1, h2, h3⟩
      · refine .inl ⟨by simpa using h1, ?_⟩
        rw [List.filter_cons, hp]
        simp [h2]
      · refine .inr ⟨j + 1, by simpa using hj, ?_, by simpa using h2, ?_⟩
        · simp only [Bool.false_eq_true, if_false]
          rw [h1]
          congr 1
          omega
        · rw [List.take_succ_cons, List.filter_cons, hp]
          simp [h3]
section
variable {P : Program} {w w0 : World} {X : List Nat} {L : List Item} {S : Store} {K : Value → World → Prop}
attribute [local irreducible] Run CondV GuardV LoadV
theorem r_slNil {T e : TypeId} {k n c : Nat} {cx cy : Bool} {a : Option Addr} (hT : sliceOf P T = some (e, k)) (hk : K (.bool a.isNone) w) : Run P (sBin .eql T cx cy (.slice a n c) (.slice none 0 0)) w K := by
  obtain ⟨hu, _⟩ := sliceOf_size hT
  refine Run.of (v := .bool a.isNone) (w' := w) ?_ hk
  have he : (Op.equal T (.slice a n c) (.slice none 0 0)).run P w = .ok a.isNone w := by
    rw [Op.equal, Op.maxDepth, Op.equalIn.eq_def]
    cases a <;> simp [run_underlying hu]
  have hg : ∀ x y, (eqGuard .eql T x y (.slice a n c) (.slice none 0 0)).run P w = .ok () w := fun x y => by unfold eqGuard; simp
  simp only [sBin, binOp, Sem.run_bind, hg, Result.andThen_ok, he, Sem.run_pure]
theorem Run.callVPure {f : FuncId} {fn : Func} {cap args : List Value} {r : Value} (hf : P.funcs[f]? = some fn) (hn : (fn.name == "runtime.NumGoroutine" || fn.body.isNone) = false) (h : Inv w0 X L S w) (hc : Pure P f (args ++ cap) S r)
    (hk : ∀ w', Inv w0 X L S w' → K r w') : Run P (sCall (fv f cap) args) w K := by
  refine Run.callV (A := L) (I := []) hf hn (by simpa using h) (Post := fun v I' S' => v = r ∧ I' = [] ∧ S' = S) ?_ fun v' I' S' w' => ?_
  · intro w1 hI
    exact (hc w1 hI).mono fun e w' ⟨he, hI⟩ => ⟨_, _, _, he, hI, Ext.refl _ _ _, rfl, rfl, rfl⟩
  · rintro ⟨rfl, rfl, rfl⟩ _ hI
    exact hk _ (by simpa using hI)
end
section
attribute [local irreducible] Run CondV GuardV LoadV
theorem Clone_Term_calls {xs : List T} {S : Store} {v : Value} (h : RdSl S 4 (RdT S) v xs) (hl : xs.length ≤ 4000000000) : Tri Try.prog n_x_Clone_Term [v] [] S fun r I' S' => S' = S ∧ ∃ css, I' = [rowG r t_iTerm 4 css] ∧ Rows 4 (RdT S) css xs := by
  intro w hI
  obtain ⟨a, cap, rfl, hlc, hcm, hx⟩ := id h
  refine calls_x_Clone_Term ?_
  unfold sh_x_Clone_Term
  refine r_slNil sl_SiTerm ?_
  cases a with
  | none =>
    refine condV (fun _ => ?_) (fun hb => by cases hb)
    rcases hx with rfl | ⟨b, o, c, E, fz, hc, _⟩
    · exact ⟨_, _, _, rfl, hI.rowNil t_iTerm 4, Ext.refl _ _ _, rfl, [], rfl, Rows.nil _ _⟩
    · cases hc
  | some a =>
    refine condV (fun hb => by cases hb) (fun _ => ?_)
    refine r_slice0 hI mk_SiTerm fun v0 w' hI => ?_
    refine r_appendRd (css := []) hI 0 mk_SiTerm (by omega) rfl h (fun _ _ => RdT.length) (fun _ _ => RdT.one) (by simp; omega) (by omega) fun v1 w' css2 hR hI => ?_
    exact ⟨_, _, _, rfl, hI, Ext.refl _ _ _, rfl, css2, rfl, hR⟩
theorem DeleteFunc_Term_calls {f : FuncId} {fn : Func} {cap : List Value} {S : Store} {p : T → Bool} {xs : List T} {v : Value} {css : List (List Value)} (hf : Try.prog.funcs[f]? = some fn) (hn : (fn.name == "runtime.NumGoroutine" || fn.body.isNone) = false)
    (hcall : ∀ (S' : Store), Sle S S' → ∀ x ∈ xs, ∀ cs, RdT S' cs x → Pure Try.prog f (.agg cs.toArray :: cap) S' (.bool (p x))) (hR : Rows 4 (RdT S) css xs) (hl : xs.length ≤ 1000000000) :
    Tri Try.prog n_x_DeleteFunc_Term [v, fv f cap] [rowG v t_iTerm 4 css] S fun r I' S' => I' = [] ∧ RdSl S' 4 (RdT S') r (xs.filter fun x => !p x) := by
  intro w hI
  obtain ⟨X, hX⟩ : ∃ X, X = feet [rowG v t_iTerm 4 css] := ⟨_, rfl⟩
  rw [← hX] at hI ⊢
  have hcl := hR.hc
  refine calls_x_DeleteFunc_Term ?_
  unfold sh_x_DeleteFunc_Term
  obtain ⟨hfl, ho⟩ := Inv.openRow (A := []) hI
  rcases ho with ⟨rfl, h0⟩ | ⟨g, cp, cur, rfl, hnc, hcm, hcs, ht, hI⟩
  · have : xs = [] := List.eq_nil_of_length_eq_zero (by omega)
    subst this
    have hrr : RdSl S 4 (RdT S) (.slice none 0 0) ([] : List T) := ⟨none, 0, rfl, Nat.le_refl _, Nat.zero_le _, .inl rfl⟩
    have hcb : Cb Try.prog f fn cap S (fun _ : Unit => []) (fun _ => True) (fun _ x => (p x, ())) (fun v x => ∃ cs, v = .agg cs.toArray ∧ RdT S cs x) ([] : List T) :=
      Cb.pure [] hf hn fun x u hx => by simp at hx
    refine Run.call0 fn_x_IndexFunc_Term nm_x_IndexFunc_Term hI (IndexFunc_Term_of hcb hrr (st := ()) trivial) fun t10 I' S' w' => ?_
    rintro ⟨rfl, rfl, rfl⟩ _ hI
    refine r_eql ?_
    refine condP (fun _ => ?_) (fun hb => absurd rfl hb)
    exact ⟨_, _, _, rfl, hI.nil, Ext.refl _ _ _, rfl, hrr⟩
  have hgX : g ∈ X := by rw [hX]; simp [feet, Item.foot, Value.ownBlock]
  rw [hcl] at hnc
  have hcell : ∀ i (h : i < xs.length), RdT S (cellsAt cur (i * 4) 4) xs[i] := by
    intro i hi
    have h1 := flatten_at 4 css i hR.hk (by omega)
    have hik : i * 4 + 4 ≤ css.length * 4 := by omega
    rw [← ht, List.drop_take, List.take_take, Nat.min_eq_left (by omega)] at h1
    rw [cellsAt, h1]
    exact hR.hR i hi (by omega)
  simp only [maxLen] at hcm
  have hfin : ∀ (w' : World) (c' : Array Value) (m : Nat) (ys : List T), Inv w X [.blk g (.cells c' t_iTerm)] S w' → m = ys.length → m ≤ cp → (∀ i (h : i < ys.length), RdT S (cellsAt c' (i * 4) 4) ys[i]) →
      ∃ v' I' S', Ending.returned (.slice (some ⟨g, 0, none⟩) m cp) = Ending.returned v' ∧ Inv w X I' S' w' ∧ Ext w.heap.size X S S' ∧ I' = [] ∧ RdSl S' 4 (RdT S') v' ys := by
    intro w' c' m ys hI hm hmc hy
    subst hm
    obtain ⟨h1, h2⟩ := Inv.publishLast (L := []) hI
    refine ⟨_, [], addS S g (.cells c' t_iTerm), rfl, h1, ⟨h2, fun b o hb => ?_⟩, rfl, some ⟨g, 0, none⟩, cp, rfl, hmc, by simp only [maxLen]; omega, .inr ⟨g, 0, c', t_iTerm, (0, 0), rfl, by simp [addS], fun i hi => ?_⟩⟩
    · simp only [addS] at hb
      split at hb
      · rename_i e; subst e; exact .inr (.inl hgX)
      · exact .inl hb
    · rw [Nat.zero_add]
      exact (hy i hi).mono h2
  have hI : Inv w X ([] ++ blks [(g, .cells cur t_iTerm)]) S w := hI
  obtain ⟨S1, hle, hins, hI1, hback⟩ := Inv.lendAll _ hI
  have hrr : RdSl S1 4 (RdT S1) (.slice (some ⟨g, 0, none⟩) css.length cp) xs := by
    rw [hcl]
    exact ⟨_, cp, rfl, hnc, by simp only [maxLen]; omega, .inr ⟨g, 0, cur, t_iTerm, (0, 0), rfl, hins _ (List.mem_cons_self ..), fun i hi => by rw [Nat.zero_add]; exact (hcell i hi).mono hle⟩⟩
  have hcb : Cb Try.prog f fn cap S1 (fun _ : Unit => []) (fun _ => True) (fun _ x => (p x, ())) (fun v x => ∃ cs, v = .agg cs.toArray ∧ RdT S1 cs x) xs :=
    Cb.pure [] hf hn fun x u hx => by
      rintro ⟨cs, rfl, hcs⟩ w1 hI
      exact (hcall S1 hle x hx cs hcs w1 hI).mono fun e w' ⟨he, hI⟩ => ⟨_, _, _, he, hI, Ext.refl _ _ _, rfl, rfl, rfl⟩
  refine Run.call (A := []) fn_x_IndexFunc_Term nm_x_IndexFunc_Term hI1 (IndexFunc_Term_of hcb hrr (st := ()) trivial) fun t10 I' S' w' => ?_
  rintro ⟨rfl, rfl, rfl⟩ _ hI1
  have hI : Inv w X [.blk g (.cells cur t_iTerm)] S w' := hback _ _ hI1
  rw [hcl]
  refine r_eql ?_
  rcases indexF_pure p xs 0 with ⟨h1, h2⟩ | ⟨j0, hj0, h1, h2, h3⟩
  · rw [h1]
    refine condP (fun _ => ?_) (fun hb => absurd rfl hb)
    rw [h2]
    exact hfin _ _ _ _ hI rfl hnc hcell
  rw [h1, Nat.zero_add]
  refine condP (fun hb => by omega) (fun _ => ?_)
  refine r_add (by omega) ?_
  have htk : (xs.take (j0 + 1)).filter (fun x => !p x) = xs.take j0 := by
    rw [List.take_succ_eq_append_getElem hj0, List.filter_append, h3, List.filter_cons, h2]
    simp
  refine ⟨fun a b w' => ∃ (j m : Nat) (c' : Array Value), j0 < j ∧ j ≤ xs.length ∧ a = .int .i64 j ∧ b = .int .i64 m ∧ m < j ∧ m = ((xs.take j).filter fun x => !p x).length ∧ c'.size = cur.size ∧
      (∀ i (h : i < ((xs.take j).filter fun x => !p x).length), RdT S (cellsAt c' (i * 4) 4) ((xs.take j).filter fun x => !p x)[i]) ∧ (∀ i (h : i < xs.length), j ≤ i → RdT S (cellsAt c' (i * 4) 4) xs[i]) ∧ Inv w X [.blk g (.cells c' t_iTerm)] S w',
    fun a _ _ => xs.length - (intOf a).toNat, ⟨j0 + 1, j0, cur, by omega, by omega, by congr 1, rfl, by omega, by rw [htk, List.length_take]; omega, rfl, ?_, fun i hi _ => hcell i hi, hI⟩, ?_⟩
  · rw [htk]
    intro i hi
    rw [List.getElem_take]
    exact hcell i (by simp at hi; omega)
  intro t6 _ _ t5 _ _ _ _ _ _ _ _ _ _ _ _ _ _ _ _ _ _ _ w'
  rintro ⟨j, m, c', hj0j, hj, rfl, rfl, hmj, hm, hcsz, hA, hB, hI⟩
  refine r_len sl_SiTerm ?_
  refine r_lss ?_
  refine condP (fun hji => ?_) (fun hji => ?_)
  · have hj' : j < xs.length := by omega
    have hts : (xs.take (j + 1)).filter (fun x => !p x) = (xs.take j).filter (fun x => !p x) ++ (if p xs[j] = true then [] else [xs[j]]) := by
      rw [List.take_succ_eq_append_getElem hj', List.filter_append, List.filter_cons]
      cases p xs[j] <;> simp
    have hRj := hB j hj' (Nat.le_refl _)
    have hlj := hRj.length
    refine ⟨fun b w' => ∃ (m' : Nat) (c2 : Array Value), b = .int .i64 m' ∧ m' < j + 1 ∧ m' = ((xs.take (j + 1)).filter fun x => !p x).length ∧ c2.size = cur.size ∧
        (∀ i (h : i < ((xs.take (j + 1)).filter fun x => !p x).length), RdT S (cellsAt c2 (i * 4) 4) ((xs.take (j + 1)).filter fun x => !p x)[i]) ∧ (∀ i (h : i < xs.length), j + 1 ≤ i → RdT S (cellsAt c2 (i * 4) 4) xs[i]) ∧ Inv w X [.blk g (.cells c2 t_iTerm)] S w', ?_, ?_⟩
    · refine r_indexAddr sl_SiTerm hj' ?_
      rw [Nat.zero_add]
      refine r_loadLA hI 0 (cellsAt c' (j * 4) 4) ag_iTerm rfl hlj (fun i v hi => cellsAt_get rfl i v hi) ?_
      refine r_alloc hI zo_iTerm fun b7 w' hI => ?_
      refine r_storeW hI 1 rfl ag_iTerm (by simpa using hlj) rfl (by simpa using hRj.one) fun w' hI => ?_
      refine r_loadW hI 1 ag_iTerm rfl (by simpa using hlj) ?_
      refine Run.callVPure hf hn hI (hcall S (Sle.refl S) xs[j] (List.getElem_mem hj') _ hRj) fun w' hI => ?_
      refine r_not ?_
      cases hp : p xs[j]
      · refine condV (fun _ => ?_) (fun hb => by cases hb)
        have htl : (xs.take (j + 1)).filter (fun x => !p x) = (xs.take j).filter (fun x => !p x) ++ [xs[j]] := by rw [hts, hp]; rfl
        refine r_loadW hI 1 ag_iTerm rfl (by simpa using hlj) ?_
        refine r_indexAddr sl_SiTerm (show m < xs.length by omega) ?_
        rw [Nat.zero_add]
        refine r_storeB hI 0 rfl ag_iTerm (by simpa [Value.cells] using hlj) (Nat.ble_eq_true_of_le (by omega)) (by simpa [Value.cells] using hRj.one) fun w' hI => ?_
        refine r_add (by omega) ?_
        refine ⟨m + 1, putCells c' (m * 4) (cellsAt c' (j * 4) 4), by congr 1, by omega, by rw [htl]; simp; omega, ?_, ?_, ?_, hI.pick [true, false]⟩
        · rw [putCells_size _ _ _ (by omega)]; exact hcsz
        · rw [htl]
          intro i hi
          by_cases hi2 : i < ((xs.take j).filter fun x => !p x).length
          · rw [List.getElem_append_left hi2, cellsAt_put_ne (by omega) (by omega)]
            exact hA i hi2
          · have hie : i = m := by simp at hi; omega
            subst hie
            rw [List.getElem_append_right (by omega)]
            have hps := cellsAt_put_self (c := c') (o := i * 4) (vs := cellsAt c' (j * 4) 4) (by omega)
            rw [hlj] at hps
            rw [hps]
            simpa using hRj
        · intro i hi hji2
          rw [cellsAt_put_ne (by omega) (by omega)]
          exact hB i hi (by omega)
      · refine condV (fun hb => by cases hb) (fun _ => ?_)
        have htl : (xs.take (j + 1)).filter (fun x => !p x) = (xs.take j).filter (fun x => !p x) := by rw [hts, hp]; simp
        refine ⟨m, c', rfl, by omega, by rw [htl]; exact hm, hcsz, by rw [htl]; exact hA, fun i hi h2 => hB i hi (by omega), hI.pick [true, false]⟩
    · intro t5 _ _ _ _ _ _ _ _ _ _ _ _ _ _ _ w'
      rintro ⟨m', c2, rfl, hm1, hm2, hcs2, hA2, hB2, hI⟩
      refine r_add (by omega) ?_
      exact ⟨⟨j + 1, m', c2, by omega, hj', by congr 1, rfl, hm1, hm2, hcs2, hA2, hB2, hI⟩, by simp [intOf]; omega⟩
  · have : j = xs.length := by omega
    subst this
    rw [List.take_length] at hm hA
    refine r_slFrom sl_SiTerm (show m ≤ xs.length by omega) ?_
    rw [if_neg (by omega)]
    have ead : (some (⟨g, 0, none⟩ : Addr)).map (·.add (m * 4)) = some ⟨g, m * 4, none⟩ := by rw [Option.map_some, add_lit, Nat.zero_add]
    rw [ead]
    have hzl : (Builtin.zeroCells (Value.agg #[.int .i64 0, .int .i64 0, .string ⟨#[]⟩, .slice none 0 0]).cells (xs.length - m)).toList.length = (xs.length - m) * 4 := by
      rw [Array.length_toList, size_zeroCells]; rfl
    refine r_clear (n := xs.length - m) (o := m * 4) hI 0 mk_SiTerm rfl (by omega) (by omega) ?_ fun w' hI => ?_
    · intro u hu
      simp only [Builtin.zeroCells, Array.toList_map, List.mem_map] at hu
      obtain ⟨q, _, rfl⟩ := hu
      have hq4 : q % (Value.agg #[.int .i64 0, .int .i64 0, .string ⟨#[]⟩, .slice none 0 0]).cells.size < 4 := Nat.mod_lt _ (by decide)
      generalize q % (Value.agg #[.int .i64 0, .int .i64 0, .string ⟨#[]⟩, .slice none 0 0]).cells.size = r at hq4
      match r, hq4 with
      | 0, _ | 1, _ | 2, _ | 3, _ => rfl
    refine r_slTo sl_SiTerm (show m ≤ cp by omega) ?_
    rw [if_neg (by omega)]
    have ead0 : (some (⟨g, 0, none⟩ : Addr)).map (·.add (0 * 4)) = some ⟨g, 0, none⟩ := by rw [Option.map_some, add_lit]
    rw [ead0]
    refine hfin _ _ _ _ hI hm (by omega) fun i hi => ?_
    rw [cellsAt_put_ne (by omega) (by omega)]
    exact hA i hi
end

end Go.Proofs.Ytnoieadimkgjcaa

/- impl.RenumberClause. -/
namespace Go.Proofs.Ytnoieadimkgjcaa
open Go Go.RowKit
section
variable {P : Program} {w : World} {K : Value → World → Prop}
attribute [local irreducible] Run
theorem r_slClip {T ty e : TypeId} {k h m len cap : Nat} {a : Option Addr} (hT : sliceOf P T = some (e, k)) (hh : h ≤ m) (hm : m ≤ cap) (hk : K (.slice (if m = 0 then a else a.map (·.add (0 * k))) h m) w) :
    Run P (sOp (.slice T (.const (.slice a len cap)) none (some (.const (.int .i64 h))) (some (.const (.int .i64 m)))) ty) w K := by
  obtain ⟨hu, i, hi, hs⟩ := sliceOf_size hT
  refine Run.of ?_ hk
  simp [sOp, execOp, ev0, evE, Instr.sliceAt, Instr.slice, Instr.sliceBounds, run_underlying hu, run_bound hh, run_bound hm, sizeOf, typeInfo, hi]
end
section
attribute [local irreducible] Run CondV GuardV LoadV
theorem Clip_calls {α : Type} {R : List Value → α → Prop} {S : Store} {v : Value} {xs : List α} (h : RdSl S 4 R v xs) : ∃ r, RdSl S 4 R r xs ∧ Pure Try.prog n_x_Clip_Term [v] S r := by
  obtain ⟨a, cap, rfl, hl, hc, hx⟩ := id h
  have e1 : ∀ m : Nat, (if m = 0 then a else a.map (·.add (0 * 4))) = a := by
    intro m
    split
    · rfl
    · cases a <;> simp [Addr.add]
  refine ⟨.slice a xs.length xs.length, ⟨a, xs.length, rfl, Nat.le_refl _, by omega, hx⟩, fun w hI => ?_⟩
  refine calls_x_Clip_Term ?_
  unfold sh_x_Clip_Term
  refine r_lenSl h sl_SiTerm ?_
  refine r_lenSl h sl_SiTerm ?_
  refine r_slClip sl_SiTerm (Nat.le_refl _) hl ?_
  rw [e1]
  exact done hI rfl
theorem variable_calls (n : Int) (S : Store) : Pure Try.prog n_i_variable [.int .i64 n] S (.agg #[.int .i64 1, .int .i64 n, .string ⟨#[]⟩, .slice none 0 0]) := by
  intro w hI
  refine calls_i_variable ?_
  unfold sh_i_variable
  refine r_alloc hI zo_iTerm fun b1 w' hI => ?_
  have hb : ∀ {K : Value → World → Prop} {w' : World}, K (.agg #[.int .i64 1, .int .i64 n, .string ⟨#[]⟩, .slice none 0 0]) w' → Run Try.prog (sBuild t_iTerm [(0, .int .i64 1), (1, .int .i64 n)]) w' K := by
    intro K w' hk
    refine Run.of (v := .agg #[.int .i64 1, .int .i64 n, .string ⟨#[]⟩, .slice none 0 0]) (w' := w') ?_ hk
    unfold sBuild
    rw [Sem.run_bind, run_build w' t_iTerm _ #[.int .i64 1, .int .i64 n, .string ⟨#[]⟩, .slice none 0 0] (by kernel_rfl), Result.andThen_ok]
    rfl
  refine hb ?_
  refine r_storeW hI 0 rfl ag_iTerm rfl rfl (by simp [Value.oneCell']) fun w' hI => ?_
  refine loadV_W hI 0 ag_iTerm rfl rfl ?_
  exact done hI rfl
theorem renumbered_1_calls {vs : List Int} {S : Store} {g : Nat} {vv : Value} {E : TypeId} (n : Int) (hS : S g = some (.cells #[vv] E)) (hv : RdSl S 1 RdInt vv vs) :
    Pure Try.prog n_i_renumbered_1 [.int .i64 n, .pointer (some ⟨g, 0, none⟩)] S (.agg #[.int .i64 1, .int .i64 (idxI vs n), .string ⟨#[]⟩, .slice none 0 0]) := by
  intro w hI
  refine calls_i_renumbered_1 ?_
  unfold sh_i_renumbered_1
  refine r_alloc hI zo_iTerm fun b1 w' hI => ?_
  refine r_load sc_Sint (by rw [hI.cellS hS]; rfl) ?_
  refine Run.callPure fn_x_Index_int nm_x_Index_int hI (Index_int_calls n hv) fun w' hI => ?_
  refine Run.callPure fn_i_variable nm_i_variable hI (variable_calls _ S) fun w' hI => ?_
  refine r_storeW hI 0 rfl ag_iTerm rfl rfl (by simp [Value.oneCell']) fun w' hI => ?_
  refine loadV_W hI 0 ag_iTerm rfl rfl ?_
  exact done hI rfl
theorem mapVars_calls (vs : List Int) (hvl : vs.length ≤ 1000000000) : ∀ (t : T) (S : Store) (cs : List Value) (g : Nat) (vv : Value) (E : TypeId), RdT S cs t → S g = some (.cells #[vv] E) → RdSl S 1 RdInt vv vs → wT t ≤ 1048576 →
    Tri Try.prog n_i_mapVars [.agg cs.toArray, fv n_i_renumbered_1 [.pointer (some ⟨g, 0, none⟩)]] [] S (PostT S (irenT vs t)) := by
  refine T.ind fun k n s ks ih0 S cs g vv E h hS hv hw => ?_
  have ih : ∀ t ∈ ks, ∀ (S : Store) (cs : List Value), RdT S cs t → S g = some (.cells #[vv] E) → RdSl S 1 RdInt vv vs → wT t ≤ 1048576 →
    Tri Try.prog n_i_mapVars [.agg cs.toArray, fv n_i_renumbered_1 [.pointer (some ⟨g, 0, none⟩)]] [] S (PostT S (irenT vs t)) := fun t ht S cs h1 h2 h3 h4 => ih0 t ht S cs g vv E h1 h2 h3 h4
  clear ih0
  intro w hI
  obtain ⟨kv, rfl, h1, h2, hs, hks⟩ := RdT.iff.1 h
  simp only [T.name, T.kids, T.kind, T.n] at h1 h2 hs hks ⊢
  simp only [wT] at hw
  have hir := idxI_rng vs n
  refine calls_i_mapVars ?_
  unfold sh_i_mapVars
  refine r_box hI fun b2 w' hI => ?_
  refine r_alloc hI zo_iTerm fun b4 w' hI => ?_
  refine r_fieldL hI 0 rfl fo_iTerm_0 sc_int rfl ?_
  refine r_eql ?_
  rw [irenT]
  refine condP (fun hk1 => ?_) (fun hk1 => ?_)
  · rw [if_pos hk1]
    refine r_fieldL hI 0 rfl fo_iTerm_1 sc_int rfl ?_
    refine Run.callVPure fn_i_renumbered_1 nm_i_renumbered_1 hI (renumbered_1_calls n hS hv) fun w' hI => ?_
    refine r_storeW hI 1 rfl ag_iTerm rfl rfl (by simp [Value.oneCell']) fun w' hI => ?_
    refine loadV_W hI 1 ag_iTerm rfl rfl ?_
    exact ⟨_, _, _, rfl, hI.pick [false, false], Ext.refl _ _ _, rfl, [_, _, _, _], [], rfl, rfl, TrT.iff.2 ⟨_, rfl, by simp [inI, T.kind], by simp only [inI, T.n]; omega, by rw [T.name]; decide +kernel, TrSl.nil (by simp [maxLen])⟩⟩
  rw [if_neg hk1]
  refine r_fieldL hI 0 rfl fo_iTerm_3 sc_SiTerm rfl ?_
  refine r_fieldSt hI 0 rfl fo_iTerm_3 sc_SiTerm rfl rfl rfl fun w' hI => ?_
  refine r_lenSl hks sl_SiTerm ?_
  have hI : Inv w [] [.blk b4 (.cells #[.int .i64 0, .int .i64 0, .string ⟨#[]⟩, .slice none 0 0] t_iTerm), .blk b2 (.cells #[.int .i64 k, .int .i64 n, .string s, .slice none 0 0] t_iTerm)] S w' := hI.perm (List.Perm.swap _ _ _)
  have hI := hI.rowNil t_iTerm 4
  refine ⟨fun i w' => ∃ (j : Nat) (kvc : Value) (Ls : List Heaplet) (css : List (List Value)), j ≤ ks.length ∧ i = .int .i64 j ∧ Grown 4 TrT Ls css (irenL vs (ks.take j)) ∧
      Inv w [] (.blk b4 (.cells #[.int .i64 0, .int .i64 0, .string ⟨#[]⟩, .slice none 0 0] t_iTerm) :: .blk b2 (.cells #[.int .i64 k, .int .i64 n, .string s, kvc] t_iTerm) :: rowG kvc t_iTerm 4 css :: blks Ls.flatten) S w',
    fun i _ => ks.length - (intOf i).toNat, ⟨0, _, [], [], Nat.zero_le _, rfl, Grown.nil _ _, hI⟩, ?_⟩
  intro t20 _ _ _ _ _ _ _ _ _ _ _ _ _ w'
  rintro ⟨j, kvc, Ls, css, hj, rfl, hg, hI⟩
  refine r_lss ?_
  refine condP (fun hji => ?_) (fun hji => ?_)
  · have hj' : j < ks.length := by omega
    have hjl : (ks.take j).length = j := by simp; omega
    have hcl := hg.hc
    rw [irenL_len] at hcl
    have hm := List.getElem_mem hj'
    have hwm := wL_mem hm
    refine r_elem hI hks sl_SiTerm ag_iTerm hj' (fun _ _ => RdT.length) fun cs0 hcs0 => ?_
    refine r_alloc hI zo_iTerm fun b7 w' hI => ?_
    have hI := hI.perm (M := .blk b7 _ :: (.blk b4 (.cells #[.int .i64 0, .int .i64 0, .string ⟨#[]⟩, .slice none 0 0] t_iTerm) :: .blk b2 (.cells #[.int .i64 k, .int .i64 n, .string s, kvc] t_iTerm) :: rowG kvc t_iTerm 4 css :: blks Ls.flatten)) (List.perm_append_comm (l₁ := [_]))
    refine r_storeW hI 0 rfl ag_iTerm (by simpa using hcs0.length) rfl (by simpa using hcs0.one) fun w' hI => ?_
    refine ⟨fun D x31 x30 x29 x28 x27 x26 x25 x24 w_ => (D 0 = true → x24 = .pointer (some ⟨b2, 3, none⟩)) ∧ (D 1 = true → x25 = kvc) ∧ (D 2 = true → x26 = .agg cs0.toArray) ∧ (D 3 = true → x27 = fv n_i_renumbered_1 [.pointer (some ⟨g, 0, none⟩)]) ∧ (D 4 = true → True) ∧ (D 5 = true → True) ∧ (D 6 = true → True) ∧ (D 7 = true → x31 = .pointer (some ⟨b2, 3, none⟩)) ∧ (D 8 = true → True) ∧ ∃ M cs7 b8, (D 4 = true → x28 = .agg cs7.toArray ∧ TrT M cs7 (irenT vs ks[j])) ∧ (D 5 = true → x29 = .slice (some ⟨b8, 0, none⟩) 1 1) ∧ (D 5 = true → D 4 = true) ∧ (D 6 = true → D 5 = true) ∧ (D 8 = true → D 6 = true) ∧ (D 8 = true → D 1 = true) ∧ Inv w [] (cpItems (.blk b7 (.cells cs0.toArray t_iTerm)) (.blk b4 (.cells #[.int .i64 0, .int .i64 0, .string ⟨#[]⟩, .slice none 0 0] t_iTerm)) (.blk b2 (.cells #[.int .i64 k, .int .i64 n, .string s, kvc] t_iTerm)) (.blk b2 (.cells #[.int .i64 k, .int .i64 n, .string s, x30] t_iTerm)) (rowG kvc t_iTerm 4 css) (rowG x30 t_iTerm 4 (css ++ [cs7])) (blks Ls.flatten) M (.blk b8 (.cells cs7.toArray t_iTerm)) (D 4) (D 5) (D 6) (D 8)) S w_, ⟨fun h => Bool.noConfusion h, fun h => Bool.noConfusion h, fun h => Bool.noConfusion h, fun h => Bool.noConfusion h, fun h => Bool.noConfusion h, fun h => Bool.noConfusion h, fun h => Bool.noConfusion h, fun h => Bool.noConfusion h, fun h => Bool.noConfusion h, ⟨[], [], 0, fun h => Bool.noConfusion h, fun h => Bool.noConfusion h, fun h => Bool.noConfusion h, fun h => Bool.noConfusion h, fun h => Bool.noConfusion h, fun h => Bool.noConfusion h, by simpa [cpItems, blks] using hI.draw⟩⟩, ⟨?_, ?_, ?_, ?_, ?_, ?_, ?_, ?_, ?_, trivial⟩, ?_⟩
    · intro D hD_  x31 x30 x29 x28 x27 x26 x25 x24 w_
      rintro ⟨h0_, h1_, h2_, h3_, h4_, h5_, h6_, h7_, h8_, ⟨M, cs7, b8, e7, e8, k8, k9, k11, k1, hI⟩⟩
      refine r_field fo_iTerm_3 ?_
      exact ⟨fun _ => rfl, h1_, h2_, h3_, h4_, h5_, h6_, h7_, h8_, ⟨M, cs7, b8, e7, e8, k8, k9, k11, k1, hI⟩⟩
    · intro D hD_ d0_0 x31 x30 x29 x28 x27 x26 x25 x24 w_
      rintro ⟨h0_, h1_, h2_, h3_, h4_, h5_, h6_, h7_, h8_, ⟨M, cs7, b8, e7, e8, k8, k9, k11, k1, hI⟩⟩
      obtain rfl := h0_ d0_0
      have f11 : D 8 = false := Bool.eq_false_iff.2 fun h => by rw [k1 h] at hD_; cases hD_
      refine r_loadL (b := b2) hI 2 (c := (#[.int .i64 k, .int .i64 n, .string s, kvc])) sc_SiTerm (by rw [f11]; rfl) rfl ?_
      have k1 := fun (_ : setD D 1 8 = true) => (rfl : setD D 1 1 = true)
      exact ⟨h0_, fun _ => rfl, h2_, h3_, h4_, h5_, h6_, h7_, h8_, ⟨M, cs7, b8, e7, e8, k8, k9, k11, k1, hI⟩⟩
    · intro D hD_  x31 x30 x29 x28 x27 x26 x25 x24 w_
      rintro ⟨h0_, h1_, h2_, h3_, h4_, h5_, h6_, h7_, h8_, ⟨M, cs7, b8, e7, e8, k8, k9, k11, k1, hI⟩⟩
      refine r_loadW hI 0 ag_iTerm rfl (by simpa using hcs0.length) ?_
      exact ⟨h0_, h1_, fun _ => rfl, h3_, h4_, h5_, h6_, h7_, h8_, ⟨M, cs7, b8, e7, e8, k8, k9, k11, k1, hI⟩⟩
    · intro D hD_  x31 x30 x29 x28 x27 x26 x25 x24 w_
      rintro ⟨h0_, h1_, h2_, h3_, h4_, h5_, h6_, h7_, h8_, ⟨M, cs7, b8, e7, e8, k8, k9, k11, k1, hI⟩⟩
      exact ⟨h0_, h1_, h2_, fun _ => rfl, h4_, h5_, h6_, h7_, h8_, ⟨M, cs7, b8, e7, e8, k8, k9, k11, k1, hI⟩⟩
    · intro D hD_ d2_0 d3_1 x31 x30 x29 x28 x27 x26 x25 x24 w_
      rintro ⟨h0_, h1_, h2_, h3_, h4_, h5_, h6_, h7_, h8_, ⟨M, cs7, b8, e7, e8, k8, k9, k11, k1, hI⟩⟩
      obtain rfl := h2_ d2_0
      obtain rfl := h3_ d3_1
      have f8 : D 5 = false := Bool.eq_false_iff.2 fun h => by rw [k8 h] at hD_; cases hD_
      have f9 : D 6 = false := Bool.eq_false_iff.2 fun h => by rw [k9 h] at f8; cases f8
      have f11 : D 8 = false := Bool.eq_false_iff.2 fun h => by rw [k11 h] at f9; cases f9
      rw [hD_, f8, f9, f11] at hI
      refine Run.call0 fn_i_mapVars nm_i_mapVars hI (ih _ (List.getElem_mem hj') S cs0 hcs0 hS hv (by omega)) fun v' I' S w_ => ?_
      rintro ⟨rfl, cs7, M, rfl, rfl, hT⟩ _ hI
      have e7 : setD D 4 4 = true → Value.agg cs7.toArray = Value.agg cs7.toArray ∧ TrT M cs7 (irenT vs ks[j]) := fun _ => ⟨rfl, hT⟩
      have k8 := fun (_ : setD D 4 5 = true) => (rfl : setD D 4 4 = true)
      have hI : Inv w [] (cpItems (.blk b7 (.cells cs0.toArray t_iTerm)) (.blk b4 (.cells #[.int .i64 0, .int .i64 0, .string ⟨#[]⟩, .slice none 0 0] t_iTerm)) (.blk b2 (.cells #[.int .i64 k, .int .i64 n, .string s, kvc] t_iTerm)) (.blk b2 (.cells #[.int .i64 k, .int .i64 n, .string s, x30] t_iTerm)) (rowG kvc t_iTerm 4 css) (rowG x30 t_iTerm 4 (css ++ [cs7])) (blks Ls.flatten) M (.blk b8 (.cells cs7.toArray t_iTerm)) true (D 5) (D 6) (D 8)) S w_ := by
        rw [f8, f9, f11]
        simpa [cpItems] using hI
      exact ⟨h0_, h1_, h2_, h3_, fun _ => by first | assumption | trivial, h5_, h6_, h7_, h8_, ⟨M, cs7, b8, e7, e8, k8, k9, k11, k1, hI⟩⟩
    · intro D hD_ d4_0 x31 x30 x29 x28 x27 x26 x25 x24 w_
      rintro ⟨h0_, h1_, h2_, h3_, h4_, h5_, h6_, h7_, h8_, ⟨M, cs7, b8, e7, e8, k8, k9, k11, k1, hI⟩⟩
      have g4_ := h4_ d4_0
      have f9 : D 6 = false := Bool.eq_false_iff.2 fun h => by rw [k9 h] at hD_; cases hD_
      have f11 : D 8 = false := Bool.eq_false_iff.2 fun h => by rw [k11 h] at f9; cases f9
      obtain ⟨q7, hT⟩ := e7 d4_0
      subst q7
      rw [d4_0, hD_, f9, f11] at hI
      refine r_slice1 hI mk_SiTerm (by simp [Value.cells, hT.length]) (by omega) (by omega) fun b8 w_ hI => ?_
      have e7 : setD D 5 4 = true → Value.agg cs7.toArray = Value.agg cs7.toArray ∧ TrT M cs7 (irenT vs ks[j]) := fun _ => ⟨rfl, hT⟩
      have e8 := fun (_ : setD D 5 5 = true) => (rfl : Value.slice (some ⟨b8, 0, none⟩) 1 1 = _)
      have k8 := fun (_ : setD D 5 5 = true) => d4_0
      have k9 := fun (_ : setD D 5 6 = true) => (rfl : setD D 5 5 = true)
      have hI : Inv w [] (cpItems (.blk b7 (.cells cs0.toArray t_iTerm)) (.blk b4 (.cells #[.int .i64 0, .int .i64 0, .string ⟨#[]⟩, .slice none 0 0] t_iTerm)) (.blk b2 (.cells #[.int .i64 k, .int .i64 n, .string s, kvc] t_iTerm)) (.blk b2 (.cells #[.int .i64 k, .int .i64 n, .string s, x30] t_iTerm)) (rowG kvc t_iTerm 4 css) (rowG x30 t_iTerm 4 (css ++ [cs7])) (blks Ls.flatten) M (.blk b8 (.cells cs7.toArray t_iTerm)) (D 4) true (D 6) (D 8)) S w_ := by
        rw [d4_0, f9, f11]
        simpa [cpItems, Value.cells] using hI
      exact ⟨h0_, h1_, h2_, h3_, h4_, fun _ => by first | assumption | trivial, h6_, h7_, h8_, ⟨M, cs7, b8, e7, e8, k8, k9, k11, k1, hI⟩⟩
    · intro D hD_ d1_0 d5_1 d4_2 x31 x30 x29 x28 x27 x26 x25 x24 w_
      rintro ⟨h0_, h1_, h2_, h3_, h4_, h5_, h6_, h7_, h8_, ⟨M, cs7, b8, e7, e8, k8, k9, k11, k1, hI⟩⟩
      obtain rfl := h1_ d1_0
      have g5_ := h5_ d5_1
      have f11 : D 8 = false := Bool.eq_false_iff.2 fun h => by rw [k11 h] at hD_; cases hD_
      have q8 := e8 d5_1
      subst q8
      obtain ⟨_, hT⟩ := e7 d4_2
      rw [d4_2, d5_1, hD_, f11] at hI
      have hblk : ((cpItems (.blk b7 (.cells cs0.toArray t_iTerm)) (.blk b4 (.cells #[.int .i64 0, .int .i64 0, .string ⟨#[]⟩, .slice none 0 0] t_iTerm)) (.blk b2 (.cells #[.int .i64 k, .int .i64 n, .string s, x25] t_iTerm)) (.blk b2 (.cells #[.int .i64 k, .int .i64 n, .string s, x30] t_iTerm)) (rowG x25 t_iTerm 4 css) (rowG x30 t_iTerm 4 (css ++ [cs7])) (blks Ls.flatten) M (.blk b8 (.cells cs7.toArray t_iTerm)) true true false false))[4 + (blks Ls.flatten).length + (blks M).length]? = some (.blk b8 (.cells cs7.toArray t_iTerm)) := by
        have e4 : 4 + (blks Ls.flatten).length + (blks M).length = ((blks Ls.flatten).length + (blks M).length) + 1 + 1 + 1 + 1 := by omega
        rw [e4]
        simp only [cpItems, List.getElem?_cons_succ]
        rw [List.getElem?_append_right (by omega), Nat.add_sub_cancel_left, List.getElem?_append_right (Nat.le_refl _), Nat.sub_self]; rfl
      refine r_append hI 3 cs7 mk_SiTerm (by omega) rfl (by rw [hT.length]) (m := 1) (o := 0) ?_ hT.one (by omega) (by omega) fun v' w_ hI => ?_
      · intro i u hi
        rw [hI.cellL hblk, Nat.zero_add]
        simpa using hi
      rw [rowG_snoc] at hI
      have k9 := fun (_ : setD D 6 6 = true) => d5_1
      have k11 := fun (_ : setD D 6 8 = true) => (rfl : setD D 6 6 = true)
      have hI : Inv w [] (cpItems (.blk b7 (.cells cs0.toArray t_iTerm)) (.blk b4 (.cells #[.int .i64 0, .int .i64 0, .string ⟨#[]⟩, .slice none 0 0] t_iTerm)) (.blk b2 (.cells #[.int .i64 k, .int .i64 n, .string s, x25] t_iTerm)) (.blk b2 (.cells #[.int .i64 k, .int .i64 n, .string s, v'] t_iTerm)) (rowG x25 t_iTerm 4 css) (rowG v' t_iTerm 4 (css ++ [cs7])) (blks Ls.flatten) M (.blk b8 (.cells cs7.toArray t_iTerm)) (D 4) (D 5) true (D 8)) S w_ := by
        rw [d4_2, d5_1, f11]
        exact hI
      exact ⟨h0_, h1_, h2_, h3_, h4_, h5_, fun _ => by first | assumption | trivial, h7_, h8_, ⟨M, cs7, b8, e7, e8, k8, k9, k11, k1, hI⟩⟩
    · intro D hD_ d0_0 d1_1 d2_2 d3_3 d4_4 d5_5 d6_6 x31 x30 x29 x28 x27 x26 x25 x24 w_
      rintro ⟨h0_, h1_, h2_, h3_, h4_, h5_, h6_, h7_, h8_, ⟨M, cs7, b8, e7, e8, k8, k9, k11, k1, hI⟩⟩
      refine r_field fo_iTerm_3 ?_
      exact ⟨h0_, h1_, h2_, h3_, h4_, h5_, h6_, fun _ => rfl, h8_, ⟨M, cs7, b8, e7, e8, k8, k9, k11, k1, hI⟩⟩
    · intro D hD_ d7_0 d6_1 d6_2 d0_3 d1_4 d2_5 d3_6 d4_7 d5_8 d6_9 x31 x30 x29 x28 x27 x26 x25 x24 w_
      rintro ⟨h0_, h1_, h2_, h3_, h4_, h5_, h6_, h7_, h8_, ⟨M, cs7, b8, e7, e8, k8, k9, k11, k1, hI⟩⟩
      obtain rfl := h7_ d7_0
      have g6_ := h6_ d6_1
      rw [d4_7, d5_8, d6_1, hD_] at hI
      obtain ⟨va, vn, vc, hv9⟩ := Inv.rowSlice hI 3 rfl
      refine r_store hI 2 (n := 1) (by rw [hv9]; rfl) (by decide +kernel) rfl (by simp) (by rw [hv9]; simp [Value.cells, Value.oneCell']) fun w_ hI => ?_
      have hcl9 : Value.cells x30 = #[x30] := by rw [hv9]; rfl
      rw [hcl9] at hI
      have k1 := fun (_ : setD D 8 8 = true) => d1_4
      have k11 := fun (_ : setD D 8 8 = true) => d6_1
      have hI : Inv w [] (cpItems (.blk b7 (.cells cs0.toArray t_iTerm)) (.blk b4 (.cells #[.int .i64 0, .int .i64 0, .string ⟨#[]⟩, .slice none 0 0] t_iTerm)) (.blk b2 (.cells #[.int .i64 k, .int .i64 n, .string s, kvc] t_iTerm)) (.blk b2 (.cells #[.int .i64 k, .int .i64 n, .string s, x30] t_iTerm)) (rowG kvc t_iTerm 4 css) (rowG x30 t_iTerm 4 (css ++ [cs7])) (blks Ls.flatten) M (.blk b8 (.cells cs7.toArray t_iTerm)) (D 4) (D 5) (D 6) true) S w_ := by
        rw [d4_7, d5_8, d6_1]
        exact hI
      exact ⟨h0_, h1_, h2_, h3_, h4_, h5_, h6_, h7_, fun _ => trivial, ⟨M, cs7, b8, e7, e8, k8, k9, k11, k1, hI⟩⟩
    intro D d8_ d7_ d6_ d5_ d4_ d3_ d2_ d1_ d0_ x31 x30 x29 x28 x27 x26 x25 x24 w_
    rintro ⟨h0_, h1_, h2_, h3_, h4_, h5_, h6_, h7_, h8_, ⟨M, cs7, b8, e7, e8, k8, k9, k11, k1, hI⟩⟩
    obtain rfl := h7_ d7_
    have g6_ := h6_ d6_
    have g5_ := h5_ d5_
    have g4_ := h4_ d4_
    obtain rfl := h3_ d3_
    obtain rfl := h2_ d2_
    obtain rfl := h1_ d1_
    obtain rfl := h0_ d0_
    clear h0_ h1_ h2_ h3_ h4_ h5_ h6_ h7_ h8_
    obtain ⟨_, hT⟩ := e7 d4_
    rw [d4_, d5_, d6_, d8_] at hI
    refine r_add (by omega) ?_
    refine ⟨⟨j + 1, x30, Ls ++ [M], css ++ [cs7], hj', rfl, ?_, ?_⟩, by simp [intOf]; omega⟩
    · rw [irenL_take vs ks j hj']
      exact hg.snoc hT hT.length
    · simp only [List.flatten_append, List.flatten_cons, List.flatten_nil, List.append_nil, blks_append]
      refine hI.sub ?_
      simp only [cpItems]
      rw [← List.append_assoc]
      exact ((((List.sublist_append_left _ _).cons_cons _).cons_cons _).cons_cons _).cons _
  · have : j = ks.length := by omega
    subst this
    rw [List.take_length] at hg
    obtain ⟨va, vn, vc, hvk⟩ := hI.rowSlice 2 rfl
    have hv1 : kvc.oneCell' = true := by rw [hvk]; rfl
    refine r_loadW hI 1 ag_iTerm rfl rfl ?_
    refine r_storeW hI 0 rfl ag_iTerm rfl rfl ?_ fun w' hI => ?_
    · intro u hu
      have hu' : u ∈ ([.int .i64 k, .int .i64 n, .string s, kvc] : List Value) := hu
      simp at hu'
      rcases hu' with rfl | rfl | rfl | rfl <;> first | rfl | exact hv1
    refine loadV_W hI 0 ag_iTerm rfl rfl ?_
    have hI : Inv w [] ([] ++ (rowG kvc t_iTerm 4 css :: blks Ls.flatten)) S w' := hI.sub (List.sublist_append_right [_, _] _)
    obtain ⟨L, hT, hI⟩ := Inv.rowTree hI hg
    exact ⟨_, _, _, rfl, hI, Ext.refl _ _ _, rfl, _, L, rfl, rfl, TrT.iff.2 ⟨kvc, rfl, h1, h2, hs, hT⟩⟩
theorem renumbered_calls {ts : List T} {S : Store} {v : Value} (h : RdSl S 4 (RdT S) v ts) (hw : ts.length + wL ts ≤ 1048577) : Tri Try.prog n_i_renumbered [v] [] S (PostS 4 TrT S (irenL (varsL ts []) ts)) := by
  intro w hI
  have hlen := h.le
  simp only [maxLen] at hlen
  have hcl := cnt_wL ts
  have hvl := varsL_le ts []
  simp only [List.length_nil] at hvl
  refine calls_i_renumbered ?_
  unfold sh_i_renumbered
  refine Run.call0 fn_i_varsOf nm_i_varsOf hI (varsOf_calls h (by omega)) fun v1 I' S w' => ?_
  rintro ⟨rfl, rfl⟩ _ hI
  have hl' : (varsL ts []).length ≤ 1000000000 := by omega
  generalize varsL ts [] = vs at hI hl' ⊢
  refine r_alloc hI zo_Sint fun b3 w' hI => ?_
  have hv1 : v1.cells = #[v1] ∧ v1.oneCell' = true := by
    have := hI.its (rowI v1 vs) (by simp)
    rcases this.2 with ⟨rfl, _⟩ | ⟨g, cap, cur, rfl, _⟩ <;> exact ⟨rfl, rfl⟩
  refine r_store hI 1 (n := 1) (by rw [hv1.1]; rfl) (by rw [sc_Sint]; rfl) rfl (Nat.le_of_ble_eq_true rfl) (by rw [hv1.1]; simpa using hv1.2) fun w' hI => ?_
  have hst : putCells (Value.slice none 0 0).cells 0 v1.cells.toList = #[v1] := by
    rw [hv1.1]; rfl
  have hI : Inv w [] [rowI v1 vs, .blk b3 (.cells #[v1] t_Sint)] S w' := by
    have := hI
    simp only [List.cons_append, List.nil_append] at this
    rw [hst] at this
    exact this
  have hI := hI.perm (M := [.blk b3 (.cells #[v1] t_Sint)] ++ [rowI v1 vs]) (List.Perm.swap _ _ _)
  obtain ⟨S1, hle1, hrd1, hI, _⟩ := Inv.lend (A := [_]) hI
  obtain ⟨hI, hle2⟩ := Inv.publishLast (L := []) hI
  have hb : addS S1 b3 (.cells #[v1] t_Sint) b3 = some (.cells #[v1] t_Sint) := by simp [addS]
  generalize addS S1 b3 (.cells #[v1] t_Sint) = S2 at hI hle2 hb
  have hr1 := hrd1.ints.mono hle2 fun _ _ h => h
  have hle := hle1.trans hle2
  have h := h.mono hle fun _ _ h => h.mono hle
  refine r_lenSl h sl_SiTerm ?_
  refine ⟨fun i t w' => ∃ (k : Nat) (Ls : List Heaplet) (css : List (List Value)), k ≤ ts.length ∧ i = .int .i64 k ∧ Grown 4 TrT Ls css (irenL vs (ts.take k)) ∧ Inv w [] (rowG t t_iTerm 4 css :: blks Ls.flatten) S2 w',
    fun i _ _ => ts.length - (intOf i).toNat, ⟨0, [], [], Nat.zero_le _, rfl, Grown.nil _ _, hI.rowNil t_iTerm 4⟩, ?_⟩
  intro t11 _ t4 _ _ _ _ _ _ _ _ _ _ w'
  rintro ⟨k, Ls, css, hk, rfl, hg, hI⟩
  refine r_lss ?_
  refine condP (fun hki => ?_) (fun hki => ?_)
  · have hk' : k < ts.length := by omega
    have htl : (ts.take k).length = k := by simp; omega
    have hcl := hg.hc
    rw [irenL_len] at hcl
    have hm := List.getElem_mem hk'
    have hwm := wL_mem hm
    refine r_elem hI h sl_SiTerm ag_iTerm hk' (fun _ _ => RdT.length) fun cs hcs => ?_
    have hlc := hcs.length
    refine r_alloc hI zo_iTerm fun b6 w' hI => ?_
    have hI := hI.perm (M := .blk b6 _ :: (rowG t4 t_iTerm 4 css :: blks Ls.flatten)) (List.perm_append_comm (l₁ := [_]))
    refine r_storeW hI 0 rfl ag_iTerm (by simpa using hlc) rfl (by simpa using hcs.one) fun w' hI => ?_
    refine r_loadW hI 0 ag_iTerm rfl (by simpa using hlc) ?_
    have hI : Inv w [] (rowG t4 t_iTerm 4 css :: blks Ls.flatten) S2 w' := hI.sub (List.sublist_cons_self _ _)
    refine r_makeFunc ?_
    refine Run.call0 fn_i_mapVars nm_i_mapVars hI (mapVars_calls vs hl' _ S2 cs b3 v1 t_Sint hcs hb hr1 (by omega)) fun v' I' S' w' => ?_
    rintro ⟨rfl, cs', L, rfl, rfl, hT⟩ _ hI
    refine r_append1 hI 0 cs' mk_SiTerm (by omega) (by omega) rfl hT.length hT.one (by omega) (by omega) fun v' w' hI => ?_
    refine r_add (by omega) ?_
    refine ⟨⟨k + 1, Ls ++ [L], css ++ [cs'], hk', rfl, ?_, ?_⟩, by simp [intOf]; omega⟩
    · rw [irenL_take vs ts k hk']
      exact hg.snoc hT hT.length
    · simp only [List.flatten_append, List.flatten_cons, List.flatten_nil, List.append_nil, blks_append]
      exact hI
  · have : k = ts.length := by omega
    subst this
    rw [List.take_length] at hg
    obtain ⟨L, hT, hI⟩ := Inv.rowTree (A := []) hI hg
    exact ⟨_, _, _, rfl, hI.less hle, Ext.refl _ _ _, rfl, _, rfl, hT⟩
end

end Go.Proofs.Ytnoieadimkgjcaa

/- impl.RenumberClause: clauses. -/
namespace Go.Proofs.Ytnoieadimkgjcaa
open Go Go.RowKit
mutual
theorem wT_sren (vs : List Int) : ∀ t : T, wT (srenT vs t) = wT t
  | .mk k n s ks => by rw [srenT, wT, wT, srenL_len, wL_sren vs ks]
theorem wL_sren (vs : List Int) : ∀ ts : List T, wL (srenL vs ts) = wL ts
  | [] => rfl
  | t :: ts => by rw [srenL, wL, wL, wT_sren vs t, wL_sren vs ts]
end
theorem wC_num (vs : List Int) (c : C) : wC (numC vs c) = wC c := by
  simp only [wC, numC, wT_sren, wL_sren, srenL_len]
section
attribute [local irreducible] Run CondV GuardV LoadV
theorem numbered_calls {c : C} {S : Store} {cs : List Value} (h : RdC S cs c) (hv : clauseB c = true) (hw : wC c ≤ 1048576) : Tri Try.prog n_i_numbered [.agg cs.toArray] [] S (PostR (numC (cvars c) c)) := by
  intro w hI
  obtain ⟨e1, e2, e3⟩ := num_eq hv
  obtain ⟨hd, ks, rfl, h1, h2⟩ := h
  have h1' := h1
  obtain ⟨kv, rfl, g1, g2, g3, g4⟩ := RdT.iff.1 h1
  have hlen := h2.le
  simp only [maxLen] at hlen
  unfold wC at hw
  refine calls_i_numbered ?_
  unfold sh_i_numbered
  refine r_box hI fun b1 w' hI => ?_
  refine r_alloc hI zo_iClause fun b2 w' hI => ?_
  refine r_field fo_iClause_0 ?_
  refine r_loadLA hI 0 [.int .i64 c.head.kind, .int .i64 c.head.n, .string c.head.name, kv] ag_iTerm rfl rfl sub4 ?_
  refine r_slice1 hI mk_SiTerm (by simp [Value.cells]) (by omega) (by omega) fun b7 w' hI => ?_
  refine r_fieldL hI 0 rfl fo_iClause_1 sc_SiTerm rfl ?_
  have hI := Inv.closeRow (A := [_, _]) (cap := 1) (k := 4) (n := 1) hI (by omega) (by simp [maxLen]) (by simp [Value.cells])
  refine r_appendRd hI 2 (css := [[.int .i64 c.head.kind, .int .i64 c.head.n, .string c.head.name, kv]]) mk_SiTerm (by omega) rfl h2 (fun _ _ => RdT.length) (fun _ _ => RdT.one) (by simp; omega) (by omega) fun v' w' css2 hR hI => ?_
  have hR := (Rows.one h1' h1'.length).append hR
  obtain ⟨S1, hle1, hrd, hI, _⟩ := Inv.lend (A := [_, _]) hI
  have hts : RdSl S1 4 (RdT S1) v' (c.head :: c.body) := (RowRd.rows hR hrd).mono (Sle.refl _) fun _ _ h => h.mono hle1
  refine Run.call0 fn_i_renumbered nm_i_renumbered hI (renumbered_calls hts (by simp only [wL, List.length_cons]; omega)) fun v11 I' S' w' => ?_
  rintro ⟨rfl, M, rfl, hT⟩ _ hI
  obtain ⟨S2, hI, hE, hins⟩ := (hI.less hle1).pubExt
  have hr := hT.rd hins fun _ _ _ hi h => h.rd hi
  rw [e1, irenL, e2, e3] at hr
  have hdrop := fun (v : Value) (h : RdSl S2 4 (RdT S2) v ((srenT (cvars c) c.head :: srenL (cvars c) c.body).drop 1)) => h
  obtain ⟨b, o, cap, cc, E, fz, rfl, hS, hR0⟩ := hr.at_ (i := 0) (by simp)
  rw [List.getElem_cons_zero] at hR0
  obtain ⟨kv', ec, f1, f2, f3, f4⟩ := RdT.iff.1 hR0
  rw [ec] at hR0
  obtain ⟨ka, kn, kc, hk'⟩ : ∃ a n m, kv' = .slice a n m := by
    obtain ⟨a, m, e, _⟩ := f4
    exact ⟨_, _, _, e⟩
  refine ⟨fun D x17 x16 x15 x14 x13 x12 x11 w_ => (D 0 = true → x11 = .slice (some ⟨b, o, none⟩) ((srenL (cvars c) c.body).length + 1) cap) ∧ (D 1 = true → x12 = .pointer (some ⟨b, o + 0 * 4, none⟩)) ∧ (D 2 = true → x13 = .agg #[.int .i64 (srenT (cvars c) c.head).kind, .int .i64 (srenT (cvars c) c.head).n, .string (srenT (cvars c) c.head).name, kv']) ∧ (D 3 = true → x14 = .slice (some ⟨b, o, none⟩) ((srenL (cvars c) c.body).length + 1) cap) ∧ (D 4 = true → RdSl S2 4 (RdT S2) x15 (srenL (cvars c) c.body)) ∧ (D 5 = true → RdSl S2 4 (RdT S2) x16 (srenL (cvars c) c.body)) ∧ (D 6 = true → ∃ kb, x17 = .agg #[.int .i64 (srenT (cvars c) c.head).kind, .int .i64 (srenT (cvars c) c.head).n, .string (srenT (cvars c) c.head).name, kv', kb] ∧ RdSl S2 4 (RdT S2) kb (srenL (cvars c) c.body)) ∧ (D 7 = true → True) ∧ ∃ B2, B2.size = 5 ∧ (D 7 = true → ∃ kb, B2 = #[.int .i64 (srenT (cvars c) c.head).kind, .int .i64 (srenT (cvars c) c.head).n, .string (srenT (cvars c) c.head).name, kv', kb] ∧ RdSl S2 4 (RdT S2) kb (srenL (cvars c) c.body)) ∧ Inv w [] [.blk b1 (.cells #[.int .i64 c.head.kind, .int .i64 c.head.n, .string c.head.name, kv, ks] t_iClause), .blk b2 (.cells B2 t_iClause)] S2 w_, ⟨fun h => Bool.noConfusion h, fun h => Bool.noConfusion h, fun h => Bool.noConfusion h, fun h => Bool.noConfusion h, fun h => Bool.noConfusion h, fun h => Bool.noConfusion h, fun h => Bool.noConfusion h, fun h => Bool.noConfusion h, ⟨_, rfl, fun h => Bool.noConfusion h, hI.draw⟩⟩, ⟨?_, ?_, ?_, ?_, ?_, ?_, ?_, ?_, trivial⟩, ?_⟩
  · intro D hD_  x17 x16 x15 x14 x13 x12 x11 w_
    rintro ⟨h0_, h1_, h2_, h3_, h4_, h5_, h6_, h7_, ⟨B2, hB, kB, hI⟩⟩
    exact ⟨fun _ => rfl, h1_, h2_, h3_, h4_, h5_, h6_, h7_, ⟨B2, hB, kB, hI⟩⟩
  · intro D hD_ d0_0 x17 x16 x15 x14 x13 x12 x11 w_
    rintro ⟨h0_, h1_, h2_, h3_, h4_, h5_, h6_, h7_, ⟨B2, hB, kB, hI⟩⟩
    obtain rfl := h0_ d0_0
    refine r_indexAddr (i := 0) sl_SiTerm (by simp) ?_
    exact ⟨h0_, fun _ => rfl, h2_, h3_, h4_, h5_, h6_, h7_, ⟨B2, hB, kB, hI⟩⟩
  · intro D hD_ d1_0 x17 x16 x15 x14 x13 x12 x11 w_
    rintro ⟨h0_, h1_, h2_, h3_, h4_, h5_, h6_, h7_, ⟨B2, hB, kB, hI⟩⟩
    obtain rfl := h1_ d1_0
    refine r_loadA (cs := [.int .i64 (srenT (cvars c) c.head).kind, .int .i64 (srenT (cvars c) c.head).n, .string (srenT (cvars c) c.head).name, kv']) ag_iTerm rfl (fun j v hj => by rw [hI.cellS hS]; exact cellsAt_get ec j v hj) ?_
    exact ⟨h0_, h1_, fun _ => rfl, h3_, h4_, h5_, h6_, h7_, ⟨B2, hB, kB, hI⟩⟩
  · intro D hD_  x17 x16 x15 x14 x13 x12 x11 w_
    rintro ⟨h0_, h1_, h2_, h3_, h4_, h5_, h6_, h7_, ⟨B2, hB, kB, hI⟩⟩
    exact ⟨h0_, h1_, h2_, fun _ => rfl, h4_, h5_, h6_, h7_, ⟨B2, hB, kB, hI⟩⟩
  · intro D hD_ d3_0 x17 x16 x15 x14 x13 x12 x11 w_
    rintro ⟨h0_, h1_, h2_, h3_, h4_, h5_, h6_, h7_, ⟨B2, hB, kB, hI⟩⟩
    obtain rfl := h3_ d3_0
    refine r_sliceFrom (l := 1) sl_SiTerm hr (by simp) fun kb hkb => ?_
    rw [List.drop_succ_cons, List.drop_zero] at hkb
    exact ⟨h0_, h1_, h2_, h3_, fun _ => by first | assumption | trivial, h5_, h6_, h7_, ⟨B2, hB, kB, hI⟩⟩
  · intro D hD_ d4_0 x17 x16 x15 x14 x13 x12 x11 w_
    rintro ⟨h0_, h1_, h2_, h3_, h4_, h5_, h6_, h7_, ⟨B2, hB, kB, hI⟩⟩
    have g4_ := h4_ d4_0
    obtain ⟨r, hr', hp⟩ := Clip_calls g4_
    refine Run.callPure fn_x_Clip_Term nm_x_Clip_Term hI hp fun w_ hI => ?_
    exact ⟨h0_, h1_, h2_, h3_, h4_, fun _ => by first | assumption | trivial, h6_, h7_, ⟨B2, hB, kB, hI⟩⟩
  · intro D hD_ d2_0 d5_1 x17 x16 x15 x14 x13 x12 x11 w_
    rintro ⟨h0_, h1_, h2_, h3_, h4_, h5_, h6_, h7_, ⟨B2, hB, kB, hI⟩⟩
    obtain rfl := h2_ d2_0
    have g5_ := h5_ d5_1
    refine r_buildClause ?_ ?_
    · obtain ⟨a, m, e, _⟩ := g5_
      exact ⟨_, _, _, e⟩
    have hnew : ∃ kb, Value.agg #[.int .i64 (srenT (cvars c) c.head).kind, .int .i64 (srenT (cvars c) c.head).n, .string (srenT (cvars c) c.head).name, kv', x16] = .agg #[.int .i64 (srenT (cvars c) c.head).kind, .int .i64 (srenT (cvars c) c.head).n, .string (srenT (cvars c) c.head).name, kv', kb] ∧ RdSl S2 4 (RdT S2) kb (srenL (cvars c) c.body) := ⟨_, rfl, g5_⟩
    exact ⟨h0_, h1_, h2_, h3_, h4_, h5_, fun _ => by first | assumption | trivial, h7_, ⟨B2, hB, kB, hI⟩⟩
  · intro D hD_ d6_0 d5_1 d0_2 d1_3 d2_4 d3_5 d4_6 d5_7 d6_8 x17 x16 x15 x14 x13 x12 x11 w_
    rintro ⟨h0_, h1_, h2_, h3_, h4_, h5_, h6_, h7_, ⟨B2, hB, kB, hI⟩⟩
    have g6_ := h6_ d6_0
    obtain ⟨kb, rfl, hkb⟩ := g6_
    obtain ⟨a, m, e, _⟩ := id hkb
    subst e
    refine r_storeW hI 1 rfl ag_iClause rfl hB (by simp [Value.oneCell', hk']) fun w_ hI => ?_
    obtain ⟨B2, hq⟩ : ∃ B2, B2 = (#[.int .i64 (srenT (cvars c) c.head).kind, .int .i64 (srenT (cvars c) c.head).n, .string (srenT (cvars c) c.head).name, kv', .slice a (srenL (cvars c) c.body).length m] : Array Value) := ⟨_, rfl⟩
    rw [← hq] at hI
    have hB : B2.size = 5 := by rw [hq]; rfl
    have kB := fun (_ : setD D 7 7 = true) => (⟨_, hq, hkb⟩ : ∃ kb, B2 = #[.int .i64 (srenT (cvars c) c.head).kind, .int .i64 (srenT (cvars c) c.head).n, .string (srenT (cvars c) c.head).name, kv', kb] ∧ RdSl S2 4 (RdT S2) kb (srenL (cvars c) c.body))
    exact ⟨h0_, h1_, h2_, h3_, h4_, h5_, h6_, fun _ => trivial, ⟨B2, hB, kB, hI⟩⟩
  intro D d7_ d6_ d5_ d4_ d3_ d2_ d1_ d0_ x17 x16 x15 x14 x13 x12 x11 w_
  rintro ⟨h0_, h1_, h2_, h3_, h4_, h5_, h6_, h7_, ⟨B2, hB, kB, hI⟩⟩
  have g6_ := h6_ d6_
  have g5_ := h5_ d5_
  have g4_ := h4_ d4_
  obtain rfl := h3_ d3_
  obtain rfl := h2_ d2_
  obtain rfl := h1_ d1_
  obtain rfl := h0_ d0_
  clear h0_ h1_ h2_ h3_ h4_ h5_ h6_ h7_
  obtain ⟨kb, rfl, hkb⟩ := kB d7_
  refine loadV_W hI 1 ag_iClause rfl rfl ?_
  exact ⟨_, _, _, rfl, hI.pick [false, false], hE, rfl, _, rfl, ⟨_, _, rfl, hR0, hkb⟩⟩
abbrev PostOB (c : C) (ok : Bool) : Value → List Item → Store → Prop := fun v I' _ => ∃ cs L, v = .tuple #[.agg cs.toArray, .bool ok] ∧ I' = blks L ∧ TrC L cs c
theorem TrC.zero : TrC [] [.int .i64 0, .int .i64 0, .string ⟨#[]⟩, .slice none 0 0, .slice none 0 0] ⟨⟨0, 0, ⟨#[]⟩, []⟩, []⟩ :=
  ⟨[.int .i64 0, .int .i64 0, .string ⟨#[]⟩, .slice none 0 0], .slice none 0 0, [], [], rfl, rfl, TrT.iff.2 ⟨_, rfl, by simp [inI, T.kind], by simp [inI, T.n], by rw [T.name]; decide +kernel, TrSl.nil (by simp [maxLen])⟩, TrSl.nil (by simp [maxLen])⟩
theorem i_RenumberClause_calls {c : C} {S : Store} {cs : List Value} (h : RdC S cs c) (hw : wC c ≤ 1048576) : Tri Try.prog n_i_RenumberClause [.agg cs.toArray] [] S (PostOB (numB c) (clauseB c)) := by
  intro w hI
  have h0 := h
  have hlc := h.length
  have hon := h.one
  refine calls_i_RenumberClause ?_
  unfold sh_i_RenumberClause
  refine r_box hI fun b1 w' hI => ?_
  refine r_alloc hI zo_iClause fun b2 w' hI => ?_
  refine r_loadW hI 0 ag_iClause rfl (by simpa [Value.cells] using hlc) ?_
  refine Run.callPure fn_i_ClauseValid nm_i_ClauseValid hI (iClauseValid_calls h0) fun w' hI => ?_
  refine r_not ?_
  rw [numB]
  cases hv : clauseB c
  · refine condV (fun _ => ?_) (fun hb => by cases hb)
    refine r_buildClause0 ?_
    refine r_storeW hI 1 rfl ag_iClause rfl rfl (by simp [Value.oneCell']) fun w' hI => ?_
    refine loadV_W hI 1 ag_iClause rfl rfl ?_
    exact ⟨_, _, _, rfl, hI.pick [false, false], Ext.refl _ _ _, _, [], rfl, rfl, TrC.zero⟩
  refine condV (fun hb => by cases hb) (fun _ => ?_)
  refine r_loadW hI 0 ag_iClause rfl (by simpa [Value.cells] using hlc) ?_
  refine Run.call0E fn_i_numbered nm_i_numbered hI (numbered_calls h0 hv hw) fun v I' S' w' => ?_
  rintro ⟨rfl, cs', rfl, hR⟩ hE hI
  refine Run.call0 fn_i_ownClause nm_i_ownClause hI (ownClause_calls hR (by rw [wC_num]; exact hw)) fun v I' S2 w' => ?_
  rintro ⟨rfl, cs2, L, rfl, rfl, hT⟩ _ hI
  refine r_storeW hI 1 rfl ag_iClause (by simpa using hT.length) rfl (by simpa using hT.one) fun w' hI => ?_
  refine loadV_W hI 1 ag_iClause rfl (by simpa using hT.length) ?_
  have hI : Inv w [] (blks L) S2 w' := hI.sub (List.sublist_append_right [_, _] _)
  exact ⟨_, _, _, rfl, hI, hE, cs2, L, rfl, rfl, hT⟩
end

end Go.Proofs.Ytnoieadimkgjcaa

/- Matching with a map: impl.instance. -/
namespace Go.Proofs.Ytnoieadimkgjcaa
open Go Go.RowKit

/- the map of impl.instance -/
def KnownM (S : Store) (es : Array MapEntry) (st : Known) : Prop :=
  (∀ e ∈ es.toList, ∃ (n : Nat) (t : T) (cs : List Value), e.key = .int .i64 n ∧ e.val = .agg cs.toArray ∧ RdT S cs t ∧ st[n]? = some (some t)) ∧ (∀ (n : Nat) (t : T), st[n]? = some (some t) → ∃ e ∈ es.toList, e.key = .int .i64 n)
theorem KnownM.find {S : Store} {es : Array MapEntry} {st : Known} (h : KnownM S es st) (n : Nat) :
    (∃ j v t cs, Instr.findNow (.int .i64) (.int .i64 n) es.toList 0 = some (some (j, v)) ∧ v = .agg cs.toArray ∧ RdT S cs t ∧ st[n]? = some (some t)) ∨
    ((∀ t, st[n]? ≠ some (some t)) ∧ Instr.findNow (.int .i64) (.int .i64 n) es.toList 0 = some none) := by
  rcases findNow_int (n := n) es.toList 0 (fun e he => by obtain ⟨m, _, _, hk, _⟩ := h.1 e he; exact ⟨m, hk⟩) with ⟨j, e, he, hk, hf⟩ | ⟨hk, hf⟩
  · obtain ⟨m, t, cs, hk2, hv, hR, hs⟩ := h.1 e he
    rw [hk] at hk2
    simp only [Value.int.injEq, true_and] at hk2
    have : n = m := by omega
    subst this
    exact .inl ⟨j, e.val, t, cs, hf, hv, hR, hs⟩
  · refine .inr ⟨fun t ht => ?_, hf⟩
    obtain ⟨e, he, hk2⟩ := h.2 n t ht
    exact hk e he hk2
theorem KnownM.push {S : Store} {es : Array MapEntry} {st : Known} (h : KnownM S es st) {n : Nat} (hn : n < st.length) (hno : ∀ t, st[n]? ≠ some (some t)) {cs : List Value} {u : T} (hu : RdT S cs u) (ck : Nat) :
    KnownM S (es.push { key := .int .i64 n, val := .agg cs.toArray, born := ck }) (st.set n (some u)) := by
  refine ⟨fun e he => ?_, fun m t ht => ?_⟩
  · rw [Array.toList_push] at he
    rcases List.mem_append.1 he with he | he
    · obtain ⟨m, t, cs', hk, hv, hR, hs⟩ := h.1 e he
      refine ⟨m, t, cs', hk, hv, hR, ?_⟩
      have : n ≠ m := fun e => hno t (by rw [e]; exact hs)
      rw [List.getElem?_set_ne this]
      exact hs
    · simp at he
      subst he
      exact ⟨n, u, cs, rfl, rfl, hu, by rw [List.getElem?_set_self hn]⟩
  · rw [Array.toList_push]
    by_cases e : n = m
    · exact ⟨_, List.mem_append_right _ (List.mem_singleton.2 rfl), by rw [e]⟩
    · rw [List.getElem?_set_ne e] at ht
      obtain ⟨x, hx, hk⟩ := h.2 m t ht
      exact ⟨x, List.mem_append_left _ hx, hk⟩
theorem hdEq_comm (t u : T) : hdEq t u = hdEq u t := by
  rw [hdEq, hdEq, Bool.eq_iff_iff]
  simp only [Bool.and_eq_true, decide_eq_true_eq]
  constructor
  · rintro ⟨a, b, c, d⟩; exact ⟨a.symm, b.symm, c.symm, d.symm⟩
  · rintro ⟨a, b, c, d⟩; exact ⟨a.symm, b.symm, c.symm, d.symm⟩
section
attribute [local irreducible] Run CondV GuardV LoadV
theorem instance_calls : ∀ (t u : T) (S : Store) (cs ds : List Value) (mb ck : Nat) (es : Array MapEntry) (st : Known), RdT S cs t → RdT S ds u → okV t → okK u → stOk st → KnownM S es st →
    Tri Try.prog n_i_instance [.agg ds.toArray, .agg cs.toArray, .map (some mb)] [.blk mb (.map es ck)] S fun r I' S' => S' = S ∧ r = .bool (matchT t u st).1 ∧ ∃ es' ck', I' = [.blk mb (.map es' ck')] ∧ KnownM S es' (matchT t u st).2 := by
  refine T.ind fun k' n' s' ks' ih u S cs ds mb ck es st h' h hv hu hst hkc => ?_
  intro w hI
  have hds := h
  obtain ⟨kv', rfl, _, _, _, hks'⟩ := RdT.iff.1 h'
  obtain ⟨kv, rfl, _, _, _, hks⟩ := RdT.iff.1 h
  obtain ⟨k, n, s, ks⟩ := u
  simp only [T.name, T.kids, T.kind, T.n] at hks hks' ⊢
  have hlen := hks'.le
  simp only [maxLen] at hlen
  rw [okV] at hv
  obtain ⟨hv1, hv2⟩ := hv
  have huk := hu
  rw [okK] at hu
  obtain ⟨X, hX⟩ : ∃ X, X = feet [Item.blk mb (.map es ck)] := ⟨_, rfl⟩
  rw [← hX] at hI ⊢
  refine calls_i_instance ?_
  unfold sh_i_instance
  refine r_box hI fun b1 w' hI => ?_
  refine r_box hI fun b2 w' hI => ?_
  have hI : Inv w X [.blk b1 (.cells #[.int .i64 k, .int .i64 n, .string s, kv] t_iTerm), .blk b2 (.cells #[.int .i64 k', .int .i64 n', .string s', kv'] t_iTerm), .blk mb (.map es ck)] S w' := hI.perm (by
    refine (List.perm_append_comm (l₁ := [_, _]) (l₂ := [_])).trans ?_
    exact List.Perm.refl _)
  refine r_fieldL hI 1 rfl fo_iTerm_0 sc_int rfl ?_
  refine r_eql ?_
  refine condP (fun hk1 => ?_) (fun hk1 => ?_)
  · obtain ⟨hn0, hn25⟩ := hv1 hk1
    obtain ⟨j, rfl⟩ : ∃ j : Nat, n' = j := ⟨n'.toNat, by omega⟩
    have hj : j < 26 := by omega
    have hjs : j < st.length := by rw [hst.1]; exact hj
    refine r_fieldL hI 1 rfl fo_iTerm_1 sc_int rfl ?_
    rcases hkc.find j with ⟨q, v, t0, cs0, hf, rfl, hR, hst2⟩ | ⟨hno, hf⟩
    · refine r_lookup (v := .agg cs0.toArray) (ok := true) hI 2 un_Mint_iTerm un_int zo_iTerm rfl (.inl ⟨q, hf, rfl⟩) ?_
      refine r_extract rfl ?_
      refine r_extract rfl ?_
      have hlc := hR.length
      refine r_alloc hI zo_iTerm fun b7 w' hI => ?_
      refine r_storeW hI 3 rfl ag_iTerm (by simpa using hlc) rfl (by simpa using hR.one) fun w' hI => ?_
      refine r_not ?_
      refine condV (fun hb => by cases hb) (fun _ => ?_)
      refine r_loadW hI 3 ag_iTerm rfl (by simpa using hlc) ?_
      refine r_loadW hI 0 ag_iTerm rfl rfl ?_
      refine Run.callPure fn_i_TermSame nm_i_TermSame hI (i_TermSame_calls t0 _ S _ _ hR hds) fun w' hI => ?_
      have hm : matchT (.mk k' j s' ks') (.mk k n s ks) st = (eqT t0 (.mk k n s ks), st) := by
        rw [matchT, if_pos hk1, Int.toNat_natCast, hst2]
      rw [hm]
      exact ⟨_, _, _, rfl, hI.pick [false, false, true, false], Ext.refl _ _ _, rfl, rfl, _, _, rfl, hkc⟩
    · refine r_lookup (ok := false) hI 2 un_Mint_iTerm un_int zo_iTerm rfl (.inr ⟨hf, rfl, rfl⟩) ?_
      refine r_extract rfl ?_
      refine r_extract rfl ?_
      refine r_alloc hI zo_iTerm fun b7 w' hI => ?_
      refine r_storeW hI 3 rfl ag_iTerm rfl rfl (by simp [Value.oneCell']) fun w' hI => ?_
      refine r_not ?_
      refine condV (fun _ => ?_) (fun hb => by cases hb)
      refine r_fieldL hI 1 rfl fo_iTerm_1 sc_int rfl ?_
      refine r_loadW hI 0 ag_iTerm rfl rfl ?_
      refine r_mapNew hI 2 un_Mint_iTerm un_int rfl hf fun w' hI => ?_
      have hm : matchT (.mk k' j s' ks') (.mk k n s ks) st = (true, st.set j (some (.mk k n s ks))) := by
        rw [matchT, if_pos hk1, Int.toNat_natCast, List.getElem?_eq_getElem hjs]
        cases hq : st[j] with
        | none => rfl
        | some t => exact absurd (by rw [List.getElem?_eq_getElem hjs, hq]) (hno t)
      rw [hm]
      exact ⟨_, _, _, rfl, hI.pick [false, false, true, false], Ext.refl _ _ _, rfl, rfl, _, _, rfl, hkc.push hjs hno hds ck⟩
  refine ⟨fun q w' => q = .bool (!hdEq (.mk k n s ks) (.mk k' n' s' ks')) ∧ Inv w X [.blk b1 (.cells #[.int .i64 k, .int .i64 n, .string s, kv] t_iTerm), .blk b2 (.cells #[.int .i64 k', .int .i64 n', .string s', kv'] t_iTerm), .blk mb (.map es ck)] S w', ?_, ?_⟩
  · refine r_fieldL hI 0 rfl fo_iTerm_0 sc_int rfl ?_
    refine r_fieldL hI 1 rfl fo_iTerm_0 sc_int rfl ?_
    refine r_neq ?_
    by_cases e1 : k = k'
    · rw [decide_eq_true e1]
      repeat (first | refine guard_true ?_ | refine guard_ne (by decide) ?_ | refine guard_undef ?_ | refine r_pickT ?_ | refine r_pickF ?_)
      refine r_fieldL hI 0 rfl fo_iTerm_1 sc_int rfl ?_
      refine r_fieldL hI 1 rfl fo_iTerm_1 sc_int rfl ?_
      refine r_neq ?_
      by_cases e2 : n = n'
      · rw [decide_eq_true e2]
        repeat (first | refine guard_true ?_ | refine guard_ne (by decide) ?_ | refine guard_undef ?_ | refine r_pickT ?_ | refine r_pickF ?_)
        refine r_fieldL hI 0 rfl fo_iTerm_2 sc_string rfl ?_
        refine r_fieldL hI 1 rfl fo_iTerm_2 sc_string rfl ?_
        refine r_sneq ?_
        by_cases e3 : s = s'
        · rw [decide_eq_true e3]
          repeat (first | refine guard_true ?_ | refine guard_ne (by decide) ?_ | refine guard_undef ?_ | refine r_pickT ?_ | refine r_pickF ?_)
          refine r_fieldL hI 0 rfl fo_iTerm_3 sc_SiTerm rfl ?_
          refine r_lenSl hks sl_SiTerm ?_
          refine r_fieldL hI 1 rfl fo_iTerm_3 sc_SiTerm rfl ?_
          refine r_lenSl hks' sl_SiTerm ?_
          refine r_neq ?_
          repeat (first | refine guard_true ?_ | refine guard_ne (by decide) ?_ | refine guard_undef ?_ | refine r_pickT ?_ | refine r_pickF ?_)
          exact ⟨by rw [hdEq_mk, decide_eq_true e1, decide_eq_true e2, decide_eq_true e3, lenEq]; rfl, hI⟩
        · rw [decide_eq_false e3]
          repeat (first | refine guard_true ?_ | refine guard_ne (by decide) ?_ | refine guard_undef ?_ | refine r_pickT ?_ | refine r_pickF ?_)
          exact ⟨by rw [hdEq_mk, decide_eq_true e1, decide_eq_true e2, decide_eq_false e3]; rfl, hI⟩
      · rw [decide_eq_false e2]
        repeat (first | refine guard_true ?_ | refine guard_ne (by decide) ?_ | refine guard_undef ?_ | refine r_pickT ?_ | refine r_pickF ?_)
        exact ⟨by rw [hdEq_mk, decide_eq_true e1, decide_eq_false e2]; rfl, hI⟩
    · rw [decide_eq_false e1]
      repeat (first | refine guard_true ?_ | refine guard_ne (by decide) ?_ | refine guard_undef ?_ | refine r_pickT ?_ | refine r_pickF ?_)
      exact ⟨by rw [hdEq_mk, decide_eq_false e1]; rfl, hI⟩

  intro q _ _ _ _ _ _ _ _ _ _ _ _ _ _ _ _ _ _ _ _ _ _ _ _ _ _ _ w'
  rintro ⟨rfl, hI⟩
  cases hd : hdEq (.mk k n s ks) (.mk k' n' s' ks')
  · refine condV (fun _ => ?_) (fun hb => by cases hb)
    have hm : matchT (.mk k' n' s' ks') (.mk k n s ks) st = (false, st) := by rw [matchT, if_neg hk1, if_neg (by rw [hdEq_comm, hd]; decide)]
    rw [hm]
    exact ⟨_, _, _, rfl, hI.pick [false, false, true], Ext.refl _ _ _, rfl, rfl, _, _, rfl, hkc⟩
  refine condV (fun hb => by cases hb) (fun _ => ?_)
  have hle : ks.length = ks'.length := by
    rw [hdEq_mk] at hd
    simp only [Bool.and_eq_true, decide_eq_true_eq] at hd
    exact hd.2.2.2
  have hm : matchT (.mk k' n' s' ks') (.mk k n s ks) st = matchL ks' ks st := by rw [matchT, if_neg hk1, if_pos (by rw [hdEq_comm, hd])]; rfl
  rw [hm]
  have hu2 := hu.2
  refine r_fieldL hI 1 rfl fo_iTerm_3 sc_SiTerm rfl ?_
  refine r_lenSl hks' sl_SiTerm ?_
  refine ⟨fun i w' => ∃ (j : Nat) (st' : Known) (es' : Array MapEntry) (ck' : Nat), j ≤ ks'.length ∧ i = .int .i64 j ∧ matchL (ks'.drop j) (ks.drop j) st' = matchL ks' ks st ∧ stOk st' ∧ KnownM S es' st' ∧ Inv w X [.blk b1 (.cells #[.int .i64 k, .int .i64 n, .string s, kv] t_iTerm), .blk b2 (.cells #[.int .i64 k', .int .i64 n', .string s', kv'] t_iTerm), .blk mb (.map es' ck')] S w', fun i _ => ks'.length - (intOf i).toNat, ⟨0, st, es, ck, Nat.zero_le _, rfl, rfl, hst, hkc, hI⟩, ?_⟩
  intro t60 _ _ _ _ _ _ _ _ _ _ _ _ _ _ _ _ _ _ w'
  rintro ⟨j, st', es', ck', hj, rfl, hrel, hst', hkc', hI⟩
  refine r_lss ?_
  refine condP (fun hji => ?_) (fun hji => ?_)
  · have hj2 : j < ks'.length := by omega
    have hj1 : j < ks.length := by omega
    obtain ⟨c1, o1, cap1, a1, E1, fz1, rfl, hS1, hR1⟩ := hks.at_ hj1
    obtain ⟨c2, o2, cap2, a2, E2, fz2, rfl, hS2, hR2⟩ := hks'.at_ hj2
    rw [matchL_drop ks' ks st' j hj2 hj1] at hrel
    have hcall := ih _ (List.getElem_mem hj2) ks[j] S _ _ mb ck' es' st' hR2 hR1 (okVL_mem hv2 _ (List.getElem_mem hj2)) (okKL_mem hu2 _ (List.getElem_mem hj1)) hst' hkc'
    have hsn := match_ok ks'[j] ks[j] st' hst' (okKL_mem hu2 _ (List.getElem_mem hj1))
    generalize hr : matchT ks'[j] ks[j] st' = r at hrel hcall hsn
    refine ⟨fun D x75 x74 x73 x72 x71 x70 x69 x68 x67 x66 x65 x64 x63 w_ => (D 0 = true → x63 = .pointer (some ⟨b1, 3, none⟩)) ∧ (D 1 = true → x64 = .slice (some ⟨c1, o1, none⟩) ks.length cap1) ∧ (D 2 = true → x65 = .int .i64 j) ∧ (D 3 = true → x66 = .pointer (some ⟨c1, o1 + j * 4, none⟩)) ∧ (D 4 = true → x67 = .agg (cellsAt a1 (o1 + j * 4) 4).toArray) ∧ (D 5 = true → x68 = .pointer (some ⟨b2, 3, none⟩)) ∧ (D 6 = true → x69 = .slice (some ⟨c2, o2, none⟩) ks'.length cap2) ∧ (D 7 = true → x70 = .int .i64 j) ∧ (D 8 = true → x71 = .pointer (some ⟨c2, o2 + j * 4, none⟩)) ∧ (D 9 = true → x72 = .agg (cellsAt a2 (o2 + j * 4) 4).toArray) ∧ (D 10 = true → x73 = .map (some mb)) ∧ (D 11 = true → x74 = .bool r.1) ∧ (D 12 = true → x75 = .bool (!r.1)) ∧ (D 11 = false → Inv w X [.blk b1 (.cells #[.int .i64 k, .int .i64 n, .string s, .slice (some ⟨c1, o1, none⟩) ks.length cap1] t_iTerm), .blk b2 (.cells #[.int .i64 k', .int .i64 n', .string s', .slice (some ⟨c2, o2, none⟩) ks'.length cap2] t_iTerm), .blk mb (.map es' ck')] S w_) ∧ (D 11 = true → ∃ es2 ck2, KnownM S es2 r.2 ∧ Inv w X [.blk b1 (.cells #[.int .i64 k, .int .i64 n, .string s, .slice (some ⟨c1, o1, none⟩) ks.length cap1] t_iTerm), .blk b2 (.cells #[.int .i64 k', .int .i64 n', .string s', .slice (some ⟨c2, o2, none⟩) ks'.length cap2] t_iTerm), .blk mb (.map es2 ck2)] S w_) ∧ ∃ es3 ck3, Inv w X [.blk b1 (.cells #[.int .i64 k, .int .i64 n, .string s, .slice (some ⟨c1, o1, none⟩) ks.length cap1] t_iTerm), .blk b2 (.cells #[.int .i64 k', .int .i64 n', .string s', .slice (some ⟨c2, o2, none⟩) ks'.length cap2] t_iTerm), .blk mb (.map es3 ck3)] S w_, ⟨fun h => Bool.noConfusion h, fun h => Bool.noConfusion h, fun h => Bool.noConfusion h, fun h => Bool.noConfusion h, fun h => Bool.noConfusion h, fun h => Bool.noConfusion h, fun h => Bool.noConfusion h, fun h => Bool.noConfusion h, fun h => Bool.noConfusion h, fun h => Bool.noConfusion h, fun h => Bool.noConfusion h, fun h => Bool.noConfusion h, fun h => Bool.noConfusion h, ⟨fun _ => hI.draw, fun h => Bool.noConfusion h, es', ck', hI.draw⟩⟩, ⟨?_, ?_, ?_, ?_, ?_, ?_, ?_, ?_, ?_, ?_, ?_, ?_, ?_, trivial⟩, ?_⟩
    · intro D hD_  x75 x74 x73 x72 x71 x70 x69 x68 x67 x66 x65 x64 x63 w_
      rintro ⟨h0_, h1_, h2_, h3_, h4_, h5_, h6_, h7_, h8_, h9_, h10_, h11_, h12_, ⟨hI0, hI1, es3, ck3, hI⟩⟩
      refine r_field fo_iTerm_3 ?_
      exact ⟨fun _ => rfl, h1_, h2_, h3_, h4_, h5_, h6_, h7_, h8_, h9_, h10_, h11_, h12_, ⟨hI0, hI1, es3, ck3, hI⟩⟩
    · intro D hD_ d0_0 x75 x74 x73 x72 x71 x70 x69 x68 x67 x66 x65 x64 x63 w_
      rintro ⟨h0_, h1_, h2_, h3_, h4_, h5_, h6_, h7_, h8_, h9_, h10_, h11_, h12_, ⟨hI0, hI1, es3, ck3, hI⟩⟩
      obtain rfl := h0_ d0_0
      refine r_loadL hI 0 sc_SiTerm rfl rfl ?_
      exact ⟨h0_, fun _ => rfl, h2_, h3_, h4_, h5_, h6_, h7_, h8_, h9_, h10_, h11_, h12_, ⟨hI0, hI1, es3, ck3, hI⟩⟩
    · intro D hD_  x75 x74 x73 x72 x71 x70 x69 x68 x67 x66 x65 x64 x63 w_
      rintro ⟨h0_, h1_, h2_, h3_, h4_, h5_, h6_, h7_, h8_, h9_, h10_, h11_, h12_, ⟨hI0, hI1, es3, ck3, hI⟩⟩
      exact ⟨h0_, h1_, fun _ => rfl, h3_, h4_, h5_, h6_, h7_, h8_, h9_, h10_, h11_, h12_, ⟨hI0, hI1, es3, ck3, hI⟩⟩
    · intro D hD_ d1_0 d2_1 x75 x74 x73 x72 x71 x70 x69 x68 x67 x66 x65 x64 x63 w_
      rintro ⟨h0_, h1_, h2_, h3_, h4_, h5_, h6_, h7_, h8_, h9_, h10_, h11_, h12_, ⟨hI0, hI1, es3, ck3, hI⟩⟩
      obtain rfl := h1_ d1_0
      obtain rfl := h2_ d2_1
      refine r_indexAddr sl_SiTerm hj1 ?_
      exact ⟨h0_, h1_, h2_, fun _ => rfl, h4_, h5_, h6_, h7_, h8_, h9_, h10_, h11_, h12_, ⟨hI0, hI1, es3, ck3, hI⟩⟩
    · intro D hD_ d3_0 x75 x74 x73 x72 x71 x70 x69 x68 x67 x66 x65 x64 x63 w_
      rintro ⟨h0_, h1_, h2_, h3_, h4_, h5_, h6_, h7_, h8_, h9_, h10_, h11_, h12_, ⟨hI0, hI1, es3, ck3, hI⟩⟩
      obtain rfl := h3_ d3_0
      refine r_loadA ag_iTerm hR1.length (fun j v hj => by rw [hI.cellS hS1]; exact cellsAt_get rfl j v hj) ?_
      exact ⟨h0_, h1_, h2_, h3_, fun _ => rfl, h5_, h6_, h7_, h8_, h9_, h10_, h11_, h12_, ⟨hI0, hI1, es3, ck3, hI⟩⟩
    · intro D hD_  x75 x74 x73 x72 x71 x70 x69 x68 x67 x66 x65 x64 x63 w_
      rintro ⟨h0_, h1_, h2_, h3_, h4_, h5_, h6_, h7_, h8_, h9_, h10_, h11_, h12_, ⟨hI0, hI1, es3, ck3, hI⟩⟩
      refine r_field fo_iTerm_3 ?_
      exact ⟨h0_, h1_, h2_, h3_, h4_, fun _ => rfl, h6_, h7_, h8_, h9_, h10_, h11_, h12_, ⟨hI0, hI1, es3, ck3, hI⟩⟩
    · intro D hD_ d5_0 x75 x74 x73 x72 x71 x70 x69 x68 x67 x66 x65 x64 x63 w_
      rintro ⟨h0_, h1_, h2_, h3_, h4_, h5_, h6_, h7_, h8_, h9_, h10_, h11_, h12_, ⟨hI0, hI1, es3, ck3, hI⟩⟩
      obtain rfl := h5_ d5_0
      refine r_loadL hI 1 sc_SiTerm rfl rfl ?_
      exact ⟨h0_, h1_, h2_, h3_, h4_, h5_, fun _ => rfl, h7_, h8_, h9_, h10_, h11_, h12_, ⟨hI0, hI1, es3, ck3, hI⟩⟩
    · intro D hD_  x75 x74 x73 x72 x71 x70 x69 x68 x67 x66 x65 x64 x63 w_
      rintro ⟨h0_, h1_, h2_, h3_, h4_, h5_, h6_, h7_, h8_, h9_, h10_, h11_, h12_, ⟨hI0, hI1, es3, ck3, hI⟩⟩
      exact ⟨h0_, h1_, h2_, h3_, h4_, h5_, h6_, fun _ => rfl, h8_, h9_, h10_, h11_, h12_, ⟨hI0, hI1, es3, ck3, hI⟩⟩
    · intro D hD_ d6_0 d7_1 x75 x74 x73 x72 x71 x70 x69 x68 x67 x66 x65 x64 x63 w_
      rintro ⟨h0_, h1_, h2_, h3_, h4_, h5_, h6_, h7_, h8_, h9_, h10_, h11_, h12_, ⟨hI0, hI1, es3, ck3, hI⟩⟩
      obtain rfl := h6_ d6_0
      obtain rfl := h7_ d7_1
      refine r_indexAddr sl_SiTerm hj2 ?_
      exact ⟨h0_, h1_, h2_, h3_, h4_, h5_, h6_, h7_, fun _ => rfl, h9_, h10_, h11_, h12_, ⟨hI0, hI1, es3, ck3, hI⟩⟩
    · intro D hD_ d8_0 x75 x74 x73 x72 x71 x70 x69 x68 x67 x66 x65 x64 x63 w_
      rintro ⟨h0_, h1_, h2_, h3_, h4_, h5_, h6_, h7_, h8_, h9_, h10_, h11_, h12_, ⟨hI0, hI1, es3, ck3, hI⟩⟩
      obtain rfl := h8_ d8_0
      refine r_loadA ag_iTerm hR2.length (fun j v hj => by rw [hI.cellS hS2]; exact cellsAt_get rfl j v hj) ?_
      exact ⟨h0_, h1_, h2_, h3_, h4_, h5_, h6_, h7_, h8_, fun _ => rfl, h10_, h11_, h12_, ⟨hI0, hI1, es3, ck3, hI⟩⟩
    · intro D hD_  x75 x74 x73 x72 x71 x70 x69 x68 x67 x66 x65 x64 x63 w_
      rintro ⟨h0_, h1_, h2_, h3_, h4_, h5_, h6_, h7_, h8_, h9_, h10_, h11_, h12_, ⟨hI0, hI1, es3, ck3, hI⟩⟩
      exact ⟨h0_, h1_, h2_, h3_, h4_, h5_, h6_, h7_, h8_, h9_, fun _ => rfl, h11_, h12_, ⟨hI0, hI1, es3, ck3, hI⟩⟩
    · intro D hD_ d4_0 d9_1 d10_2 x75 x74 x73 x72 x71 x70 x69 x68 x67 x66 x65 x64 x63 w_
      rintro ⟨h0_, h1_, h2_, h3_, h4_, h5_, h6_, h7_, h8_, h9_, h10_, h11_, h12_, ⟨hI0, hI1, es3, ck3, hI⟩⟩
      obtain rfl := h4_ d4_0
      obtain rfl := h9_ d9_1
      obtain rfl := h10_ d10_2
      refine Run.call (A := [_, _]) fn_i_instance nm_i_instance (hI0 hD_) hcall fun v' I' S w_ => ?_
      rintro ⟨rfl, rfl, es2, ck2, rfl, hk2⟩ _ hI
      have hI0 := fun (h : setD D 11 11 = false) => (Bool.noConfusion h : Inv w X [.blk b1 (.cells #[.int .i64 k, .int .i64 n, .string s, .slice (some ⟨c1, o1, none⟩) ks.length cap1] t_iTerm), .blk b2 (.cells #[.int .i64 k', .int .i64 n', .string s', .slice (some ⟨c2, o2, none⟩) ks'.length cap2] t_iTerm), .blk mb (.map es' ck')] S w_)
      have hI1 := fun (_ : setD D 11 11 = true) => (⟨es2, ck2, hk2, hI⟩ : ∃ es2 ck2, KnownM S es2 r.2 ∧ Inv w X [.blk b1 (.cells #[.int .i64 k, .int .i64 n, .string s, .slice (some ⟨c1, o1, none⟩) ks.length cap1] t_iTerm), .blk b2 (.cells #[.int .i64 k', .int .i64 n', .string s', .slice (some ⟨c2, o2, none⟩) ks'.length cap2] t_iTerm), .blk mb (.map es2 ck2)] S w_)
      obtain ⟨es3, ck3, hI⟩ : ∃ es3 ck3, Inv w X [.blk b1 (.cells #[.int .i64 k, .int .i64 n, .string s, .slice (some ⟨c1, o1, none⟩) ks.length cap1] t_iTerm), .blk b2 (.cells #[.int .i64 k', .int .i64 n', .string s', .slice (some ⟨c2, o2, none⟩) ks'.length cap2] t_iTerm), .blk mb (.map es3 ck3)] S w_ := ⟨es2, ck2, hI⟩
      exact ⟨h0_, h1_, h2_, h3_, h4_, h5_, h6_, h7_, h8_, h9_, h10_, fun _ => rfl, h12_, ⟨hI0, hI1, es3, ck3, hI⟩⟩
    · intro D hD_ d11_0 x75 x74 x73 x72 x71 x70 x69 x68 x67 x66 x65 x64 x63 w_
      rintro ⟨h0_, h1_, h2_, h3_, h4_, h5_, h6_, h7_, h8_, h9_, h10_, h11_, h12_, ⟨hI0, hI1, es3, ck3, hI⟩⟩
      obtain rfl := h11_ d11_0
      refine r_not ?_
      exact ⟨h0_, h1_, h2_, h3_, h4_, h5_, h6_, h7_, h8_, h9_, h10_, h11_, fun _ => rfl, ⟨hI0, hI1, es3, ck3, hI⟩⟩
    intro D d12_ d11_ d10_ d9_ d8_ d7_ d6_ d5_ d4_ d3_ d2_ d1_ d0_ x75 x74 x73 x72 x71 x70 x69 x68 x67 x66 x65 x64 x63 w_
    rintro ⟨h0_, h1_, h2_, h3_, h4_, h5_, h6_, h7_, h8_, h9_, h10_, h11_, h12_, ⟨hI0, hI1, es3, ck3, hI⟩⟩
    obtain rfl := h12_ d12_
    obtain rfl := h11_ d11_
    obtain rfl := h10_ d10_
    obtain rfl := h9_ d9_
    obtain rfl := h8_ d8_
    obtain rfl := h7_ d7_
    obtain rfl := h6_ d6_
    obtain rfl := h5_ d5_
    obtain rfl := h4_ d4_
    obtain rfl := h3_ d3_
    obtain rfl := h2_ d2_
    obtain rfl := h1_ d1_
    obtain rfl := h0_ d0_
    clear h0_ h1_ h2_ h3_ h4_ h5_ h6_ h7_ h8_ h9_ h10_ h11_ h12_
    obtain ⟨es2, ck2, hk2, hI⟩ := hI1 d11_
    clear hI0 hI1
    refine condV (fun hne => ?_) (fun he' => ?_)
    · simp only [Bool.not_eq_true'] at hne
      rw [hne, if_neg (by decide)] at hrel
      rw [← hrel]
      exact ⟨_, _, _, rfl, hI.pick [false, false, true], Ext.refl _ _ _, rfl, rfl, _, _, rfl, hk2⟩
    · simp only [Bool.not_eq_false'] at he'
      rw [he', if_pos rfl] at hrel
      refine r_add (by omega) ?_
      exact ⟨⟨j + 1, r.2, es2, ck2, hj2, rfl, hrel, hsn, hk2, hI⟩, by simp [intOf]; omega⟩
  · have : j = ks'.length := by omega
    subst this
    rw [List.drop_length, ← hle, List.drop_length] at hrel
    rw [← hrel]
    exact ⟨_, _, _, rfl, hI.pick [false, false, true], Ext.refl _ _ _, rfl, rfl, _, _, rfl, hkc'⟩
end

end Go.Proofs.Ytnoieadimkgjcaa
