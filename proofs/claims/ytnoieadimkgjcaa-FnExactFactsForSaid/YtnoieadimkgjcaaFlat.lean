/- Flat clauses and programs, on both sides. -/
import Derived.Test.YtnoieadimkgjcaaVars
namespace Go.Proofs.Ytnoieadimkgjcaa
open Go Go.RowKit
attribute [local irreducible] Run CondV GuardV LoadV

section
variable {P : Program} {w w0 : World} {X : List Nat} {L : List Item} {S : Store} {K : Value → World → Prop}
theorem r_elemX {α : Type} {T Tf U ty ty' ty'' E : TypeId} {k f d : Nat} {R : List Value → α → Prop} {v : Value} {xs : List α} (hI : Inv w0 X L S w) (h : RdSl S k R v xs) (hu : sliceOf P T = some (E, k)) (hf : fieldOff P Tf f = some d) (hU : isSc P U = true)
    {i : Nat} (hi : i < xs.length) (hk : ∀ cs, R cs xs[i] → ∃ u, cs[d]? = some u ∧ K u w) :
    Run P (sOp (.indexAddr T (.const v) (.const (.int .i64 i))) ty) w fun p w' => Run P (sOp (.fieldAddr Tf (.const p) f) ty') w' fun q w'' => Run P (sOp (.load U (.const q)) ty'') w'' K := by
  obtain ⟨b, o, cap, c, E', fz, rfl, hS, hR⟩ := h.at_ hi
  obtain ⟨u, hu', hK⟩ := hk _ hR
  refine r_indexAddr hu hi ?_
  refine r_field hf ?_
  refine r_load hU ?_ hK
  rw [hI.cellS hS]
  exact cellsAt_get rfl d u hu'
end
def noKids (u : T) : Bool := decide (u.kids.length = 0)
def flatT (t : T) : Bool := t.kids.all noKids && plainB t
def flatC (c : C) : Bool := flatT c.head && (decide (c.body.length ≤ 3) && (c.body.all flatT && (varsT c.head []).all fun n => hasI (varsL c.body []) n))
def flatP (p : List C) : Bool := progB p && p.all flatC

theorem l16Flat_calls {t : T} {S : Store} {cs : List Value} (h : RdT S cs t) : Pure Try.prog n_s_l16Flat [.agg cs.toArray] S (.bool (flatT t)) := by
  intro w hI
  have h0 := h
  obtain ⟨kv, rfl, _, _, hs, hks⟩ := RdT.iff.1 h
  obtain ⟨k, n, s, ks⟩ := t
  simp only [T.name, T.kids, T.kind, T.n] at h0 hs hks ⊢
  have hlen := hks.le
  simp only [maxLen] at hlen
  have hf : flatT (.mk k n s ks) = (ks.all noKids && plainB (.mk k n s ks)) := rfl
  refine calls_s_l16Flat ?_
  unfold sh_s_l16Flat
  refine r_box hI fun b1 w' hI => ?_
  refine ⟨fun i w' => ∃ j : Nat, j ≤ ks.length ∧ i = .int .i64 j ∧ (ks.drop j).all noKids = ks.all noKids ∧ Inv w [] [.blk b1 (.cells #[.int .i64 k, .int .i64 n, .string s, kv] t_iTerm)] S w',
    fun i _ => ks.length - (intOf i).toNat, ⟨0, Nat.zero_le _, rfl, rfl, hI⟩, ?_⟩
  intro t3 _ _ _ _ _ _ _ _ _ _ _ _ _ _ _ _ w'
  rintro ⟨j, hj, rfl, hrel, hI⟩
  refine r_fieldL hI 0 rfl fo_iTerm_3 sc_SiTerm rfl ?_
  refine r_lenSl hks sl_SiTerm ?_
  refine r_lss ?_
  refine condP (fun hji => ?_) (fun hji => ?_)
  · have hj' : j < ks.length := by omega
    have hstep := all_drop noKids ks j hj'
    refine r_fieldL hI 0 rfl fo_iTerm_3 sc_SiTerm rfl ?_
    refine r_elemX hI hks sl_SiTerm fo_iTerm_3 sc_SiTerm hj' fun cs' hcs' => ?_
    obtain ⟨kv', rfl, _, _, _, hkk⟩ := RdT.iff.1 hcs'
    refine ⟨kv', rfl, ?_⟩
    refine r_lenSl hkk sl_SiTerm ?_
    refine r_gtr ?_
    refine condP (fun hb => done hI ?_) (fun hb => ?_)
    · have : noKids ks[j] = false := decide_eq_false (by omega)
      rw [hf, ← hrel, hstep, this]; rfl
    · have : noKids ks[j] = true := decide_eq_true (by omega)
      refine r_add (by omega) ?_
      exact ⟨⟨j + 1, hj', rfl, by rw [← hrel, hstep, this]; rfl, hI⟩, by simp [intOf]; omega⟩
  · have : j = ks.length := by omega
    subst this
    refine r_loadW hI 0 ag_iTerm rfl rfl ?_
    refine Run.callPure fn_s_l4Plain nm_s_l4Plain hI (l4Plain_calls h0) fun w' hI => done hI ?_
    rw [hf, ← hrel, List.drop_length]; rfl
theorem isFlat_1_calls {t : T} {S : Store} {cs : List Value} (h : RdT S cs t) : Pure Try.prog n_i_isFlat_1 [.agg cs.toArray] S (.bool (!noKids t)) := by
  intro w hI
  obtain ⟨kv, rfl, _, _, hs, hks⟩ := RdT.iff.1 h
  obtain ⟨k, n, s, ks⟩ := t
  simp only [T.name, T.kids, T.kind, T.n] at hs hks ⊢
  refine calls_i_isFlat_1 ?_
  unfold sh_i_isFlat_1
  refine r_box hI fun b1 w' hI => ?_
  refine r_fieldL hI 0 rfl fo_iTerm_3 sc_SiTerm rfl ?_
  refine r_lenSl hks sl_SiTerm ?_
  refine r_gtr (done hI ?_)
  congr 1
  show decide (0 < (ks.length : Int)) = !decide (ks.length = 0)
  by_cases h : ks.length = 0
  · rw [decide_eq_true h, decide_eq_false (by omega)]; rfl
  · rw [decide_eq_false h, decide_eq_true (by omega)]; rfl
theorem isFlat_calls {t : T} {S : Store} {cs : List Value} (h : RdT S cs t) : Pure Try.prog n_i_isFlat [.agg cs.toArray] S (.bool (flatT t)) := by
  intro w hI
  have h0 := h
  obtain ⟨kv, rfl, _, _, hs, hks⟩ := RdT.iff.1 h
  obtain ⟨k, n, s, ks⟩ := t
  simp only [T.name, T.kids, T.kind, T.n] at h0 hs hks ⊢
  rw [show flatT (.mk k n s ks) = (ks.all noKids && plainB (.mk k n s ks)) from rfl]
  refine calls_i_isFlat ?_
  unfold sh_i_isFlat
  refine r_box hI fun b1 w' hI => ?_
  refine r_loadW hI 0 ag_iTerm rfl rfl ?_
  refine Run.callPure fn_i_isPlain nm_i_isPlain hI (isPlain_calls h0) fun w' hI => ?_
  cases h1 : plainB (.mk k n s ks)
  · repeat (first | refine guard_true ?_ | refine guard_ne (by decide) ?_ | refine guard_undef ?_ | refine r_pickT ?_ | refine r_pickF ?_)
    exact done hI (by simp)
  · repeat (first | refine guard_true ?_ | refine guard_ne (by decide) ?_ | refine guard_undef ?_ | refine r_pickT ?_ | refine r_pickF ?_)
    refine r_fieldL hI 0 rfl fo_iTerm_3 sc_SiTerm rfl ?_
    have hcb : Cb Try.prog n_i_isFlat_1 _ [] S (fun _ : Unit => []) (fun _ => True) (fun _ x => (!noKids x, ())) (fun v x => ∃ cs, v = .agg cs.toArray ∧ RdT S cs x) ks :=
      Cb.pure [] fn_i_isFlat_1 nm_i_isFlat_1 fun x v _ => by
        rintro ⟨cs, rfl, hcs⟩ w1 hI
        exact (isFlat_1_calls hcs w1 hI).mono fun e w' ⟨he, hI⟩ => ⟨_, _, _, he, hI, Ext.refl _ _ _, rfl, rfl, rfl⟩
    refine Run.call0 fn_x_ContainsFunc_Term nm_x_ContainsFunc_Term hI (ContainsFunc_Term_of hcb hks (st := ()) trivial) fun v' I' S' w' => ?_
    rintro ⟨rfl, rfl, rfl⟩ _ hI
    refine r_not ?_
    repeat (first | refine guard_true ?_ | refine guard_ne (by decide) ?_ | refine guard_undef ?_ | refine r_pickT ?_ | refine r_pickF ?_)
    refine done hI ?_
    rw [anyF_pure (fun x => !noKids x) ks, any_not]; simp

theorem goal_valid {t : T} (h : goalB t = true) : shapeT t 30 = true := by
  rw [goalB, Bool.and_eq_true] at h
  exact valid_shape h.1
theorem goals_shape : ∀ {ts : List T}, ts.all goalB = true → shapeL ts 30 = true
  | [], _ => rfl
  | t :: ts, h => by
    rw [List.all_cons, Bool.and_eq_true] at h
    rw [shapeL, goal_valid h.1, goals_shape h.2]; rfl
theorem clause_vars {c : C} (h : clauseB c = true) (l : List Int) : svarsT c.head l = varsT c.head l ∧ svarsL c.body l = varsL c.body l := by
  simp only [clauseB, Bool.and_eq_true] at h
  exact ⟨vars_eqT _ 30 _ (valid_shape h.2.2.1), vars_eqL _ 30 _ (goals_shape h.2.1)⟩
theorem cnt_maxT {t : T} (h : wT t ≤ 1048576) : cntT t ≤ 2000000 := by have := cnt_wT t; omega

theorem l16Clause_calls {c : C} {S : Store} {cs : List Value} (h : RdC S cs c) (hv : clauseB c = true) (hw : wC c ≤ 1048576) : Pure Try.prog n_s_l16Clause [.agg cs.toArray] S (.bool (flatC c)) := by
  intro w hI
  obtain ⟨hd, ks, rfl, h1, h2⟩ := h
  have h1' := h1
  obtain ⟨kv, rfl, g1, g2, g3, g4⟩ := RdT.iff.1 h1
  have hlen := h2.le
  simp only [maxLen] at hlen
  unfold wC at hw
  have hcl := cnt_wL c.body
  have hct := cnt_wT c.head
  have hsv := fun l => clause_vars hv l
  refine calls_s_l16Clause ?_
  unfold sh_s_l16Clause
  refine r_box hI fun b1 w' hI => ?_
  refine ⟨fun t w' => t = .bool (!(flatT c.head && decide (c.body.length ≤ 3))) ∧ Inv w [] [.blk b1 (.cells #[.int .i64 c.head.kind, .int .i64 c.head.n, .string c.head.name, kv, ks] t_iClause)] S w', ?_, ?_⟩
  · refine r_field fo_iClause_0 ?_
    refine r_loadLA hI 0 [.int .i64 c.head.kind, .int .i64 c.head.n, .string c.head.name, kv] ag_iTerm rfl rfl ?_ ?_
    · intro j v hj
      match j with
      | 0 | 1 | 2 | 3 => exact hj
      | j + 4 => simp at hj
    refine Run.callPure fn_s_l16Flat nm_s_l16Flat hI (l16Flat_calls h1') fun w' hI => ?_
    refine r_not ?_
    cases hf : flatT c.head
    · repeat (first | refine guard_true ?_ | refine guard_ne (by decide) ?_ | refine guard_undef ?_ | refine r_pickT ?_ | refine r_pickF ?_)
      exact ⟨rfl, hI⟩
    · repeat (first | refine guard_true ?_ | refine guard_ne (by decide) ?_ | refine guard_undef ?_ | refine r_pickT ?_ | refine r_pickF ?_)
      refine r_fieldL hI 0 rfl fo_iClause_1 sc_SiTerm rfl ?_
      refine r_lenSl h2 sl_SiTerm ?_
      refine r_gtr ?_
      repeat (first | refine guard_true ?_ | refine guard_ne (by decide) ?_ | refine guard_undef ?_ | refine r_pickT ?_ | refine r_pickF ?_)
      refine ⟨?_, hI⟩
      congr 1
      by_cases hl : c.body.length ≤ 3
      · rw [decide_eq_true hl, decide_eq_false (by omega)]; rfl
      · rw [decide_eq_false hl, decide_eq_true (by omega)]; rfl
  intro t _ _ _ _ _ _ _ _ _ w'
  rintro ⟨rfl, hI⟩
  refine condV (fun hb => done hI ?_) (fun hb => ?_)
  · have hb' : (flatT c.head && decide (c.body.length ≤ 3)) = false := by rw [Bool.not_eq_true'] at hb; exact hb
    rw [flatC, ← Bool.and_assoc, hb']; rfl
  have hb' : (flatT c.head && decide (c.body.length ≤ 3)) = true := by rw [Bool.not_eq_false'] at hb; exact hb
  have hfc : flatC c = (c.body.all flatT && (varsT c.head []).all fun n => hasI (varsL c.body []) n) := by
    rw [flatC, ← Bool.and_assoc, hb']; rfl
  refine r_slice0 hI mk_Sint fun v0 w' hI => ?_
  refine ⟨fun i t w' => ∃ (j : Nat) (l : List Int), j ≤ c.body.length ∧ i = .int .i64 j ∧ (c.body.drop j).all flatT = c.body.all flatT ∧ svarsL (c.body.drop j) l = svarsL c.body [] ∧ l.length + cntL (c.body.drop j) ≤ 3000000 ∧
      Inv w [] [.blk b1 (.cells #[.int .i64 c.head.kind, .int .i64 c.head.n, .string c.head.name, kv, ks] t_iClause), rowI t l] S w',
    fun i _ _ => c.body.length - (intOf i).toNat, ⟨0, [], Nat.zero_le _, rfl, rfl, rfl, by simp only [List.drop_zero, List.length_nil]; omega, hI⟩, ?_⟩
  intro t4 _ _ t3 _ _ _ _ _ _ _ _ _ _ _ _ _ _ _ _ _ _ _ _ w'
  rintro ⟨j, l, hj, rfl, hall, hvs, hl, hI⟩
  refine r_fieldL hI 0 rfl fo_iClause_1 sc_SiTerm rfl ?_
  refine r_lenSl h2 sl_SiTerm ?_
  refine r_lss ?_
  refine condP (fun hji => ?_) (fun hji => ?_)
  · have hj' : j < c.body.length := by omega
    have hstep := all_drop flatT c.body j hj'
    rw [cntL_split c.body j hj'] at hl
    rw [List.drop_eq_getElem_cons hj', svarsL] at hvs
    have hc1 := cntL_pos (c.body.drop (j + 1))
    have hc2 := svarsT_le c.body[j] l
    refine r_fieldL hI 0 rfl fo_iClause_1 sc_SiTerm rfl ?_
    refine r_elem hI h2 sl_SiTerm ag_iTerm hj' (fun _ _ => RdT.length) fun cs' hcs' => ?_
    refine Run.callPure fn_s_l16Flat nm_s_l16Flat hI (l16Flat_calls hcs') fun w' hI => ?_
    refine r_not ?_
    refine condV (fun hne => done hI ?_) (fun he => ?_)
    · have hne' : flatT c.body[j] = false := by simpa using hne
      rw [hfc, ← hall, hstep, hne']; rfl
    · have he' : flatT c.body[j] = true := by simpa using he
      refine r_fieldL hI 0 rfl fo_iClause_1 sc_SiTerm rfl ?_
      refine r_elem hI h2 sl_SiTerm ag_iTerm hj' (fun _ _ => RdT.length) fun cs' hcs' => ?_
      refine Run.call (A := [_]) fn_s_l1Vars nm_s_l1Vars hI (l1Vars_calls _ S cs' t3 l hcs' (by omega)) fun v' I' S' w' => ?_
      rintro ⟨rfl, rfl⟩ _ hI
      refine r_add (by omega) ?_
      exact ⟨⟨j + 1, _, hj', rfl, by rw [← hall, hstep, he']; rfl, hvs, by omega, hI⟩, by simp [intOf]; omega⟩
  · have : j = c.body.length := by omega
    subst this
    rw [List.drop_length] at hall hvs
    have hvs' : l = varsL c.body [] := by rw [← (hsv []).2, ← hvs, svarsL]
    have hfc2 : flatC c = (varsT c.head []).all fun n => hasI l n := by
      rw [hfc, ← hall, ← hvs']; rfl
    refine r_field fo_iClause_0 ?_
    refine r_loadLA hI 0 [.int .i64 c.head.kind, .int .i64 c.head.n, .string c.head.name, kv] ag_iTerm rfl rfl ?_ ?_
    · intro j v hj
      match j with
      | 0 | 1 | 2 | 3 => exact hj
      | j + 4 => simp at hj
    have hI := hI.rowNil t_int 1
    refine Run.call (A := [_, _]) fn_s_l1Vars nm_s_l1Vars hI (l1Vars_calls _ S _ (.slice none 0 0) [] h1' (by simp only [List.length_nil]; omega)) fun v' I' S w' => ?_
    rintro ⟨rfl, rfl⟩ _ hI
    rw [(hsv []).1] at hI
    generalize varsT c.head [] = hv at hI hfc2
    obtain ⟨S1, hle1, hrd1, hI, hback1⟩ := Inv.lend (A := [_, _]) hI
    obtain ⟨S2, hle2, hrd2, hI, hback2⟩ := Inv.lend (A := [_]) hI
    have hr1 := hrd1.ints.mono hle2 fun _ _ h => h
    have hr2 := hrd2.ints
    have hle : Sle S S2 := hle1.trans hle2
    have hlv := hr1.le
    simp only [maxLen] at hlv
    refine ⟨fun i w' => ∃ j : Nat, j ≤ hv.length ∧ i = .int .i64 j ∧ (hv.drop j).all (fun n => hasI l n) = hv.all (fun n => hasI l n) ∧ Inv w [] [.blk b1 (.cells #[.int .i64 c.head.kind, .int .i64 c.head.n, .string c.head.name, kv, ks] t_iClause)] S2 w',
      fun i _ => hv.length - (intOf i).toNat, ⟨0, Nat.zero_le _, rfl, rfl, hI⟩, ?_⟩
    intro t6 _ _ _ _ _ _ _ _ _ _ _ _ _ _ w'
    rintro ⟨j, hj, rfl, hall, hI⟩
    refine r_lenSl hr1 sl_Sint ?_
    refine r_lss ?_
    refine condP (fun hji => ?_) (fun hji => ?_)
    · have hj' : j < hv.length := by omega
      have hstep := all_drop (fun n => hasI l n) hv j hj'
      refine r_elem1 hI hr1 sl_Sint sc_int hj' (fun cs hcs => hcs) ?_
      refine Run.callPure fn_s_l16In nm_s_l16In hI (l16In_calls hv[j] hr2) fun w' hI => ?_
      refine r_not ?_
      refine condV (fun hne => doneS hI hle ?_) (fun he => ?_)
      · have hne' : hasI l hv[j] = false := by simpa using hne
        rw [hfc2, ← hall, hstep, hne']; rfl
      · have he' : hasI l hv[j] = true := by simpa using he
        refine r_add (by omega) ?_
        exact ⟨⟨j + 1, hj', rfl, by rw [← hall, hstep, he']; rfl, hI⟩, by simp [intOf]; omega⟩
    · have : j = hv.length := by omega
      subst this
      refine doneS hI hle ?_
      rw [hfc2, ← hall, List.drop_length]; rfl

theorem flatClause_1_calls {t : T} {S : Store} {cs : List Value} (h : RdT S cs t) : Pure Try.prog n_i_flatClause_1 [.agg cs.toArray] S (.bool (!flatT t)) := by
  intro w hI
  have hl := h.length
  refine calls_i_flatClause_1 ?_
  unfold sh_i_flatClause_1
  refine r_box hI fun b1 w' hI => ?_
  refine r_loadW hI 0 ag_iTerm rfl (by simpa [Value.cells] using hl) ?_
  refine Run.callPure fn_i_isFlat nm_i_isFlat hI (isFlat_calls h) fun w' hI => ?_
  exact r_not (done hI rfl)
theorem flatClause_calls {c : C} {S : Store} {cs : List Value} (h : RdC S cs c) (hw : wC c ≤ 1048576) : Pure Try.prog n_i_flatClause [.agg cs.toArray] S (.bool (flatC c)) := by
  intro w hI
  obtain ⟨hd, ks, rfl, h1, h2⟩ := h
  have h1' := h1
  obtain ⟨kv, rfl, g1, g2, g3, g4⟩ := RdT.iff.1 h1
  have hlen := h2.le
  simp only [maxLen] at hlen
  unfold wC at hw
  have hcl := cnt_wL c.body
  have hct := cnt_wT c.head
  refine calls_i_flatClause ?_
  unfold sh_i_flatClause
  refine r_box hI fun b1 w' hI => ?_
  have hcb : Cb Try.prog n_i_flatClause_1 _ [] S (fun _ : Unit => []) (fun _ => True) (fun _ x => (!flatT x, ())) (fun v x => ∃ cs, v = .agg cs.toArray ∧ RdT S cs x) c.body :=
    Cb.pure [] fn_i_flatClause_1 nm_i_flatClause_1 fun x v _ => by
      rintro ⟨cs, rfl, hcs⟩ w1 hI
      exact (flatClause_1_calls hcs w1 hI).mono fun e w' ⟨he, hI⟩ => ⟨_, _, _, he, hI, Ext.refl _ _ _, rfl, rfl, rfl⟩
  refine ⟨fun t w' => t = .bool (!(flatT c.head && (decide (c.body.length ≤ 3) && c.body.all flatT))) ∧ Inv w [] [.blk b1 (.cells #[.int .i64 c.head.kind, .int .i64 c.head.n, .string c.head.name, kv, ks] t_iClause)] S w', ?_, ?_⟩
  · refine r_field fo_iClause_0 ?_
    refine r_loadLA hI 0 [.int .i64 c.head.kind, .int .i64 c.head.n, .string c.head.name, kv] ag_iTerm rfl rfl ?_ ?_
    · intro j v hj
      match j with
      | 0 | 1 | 2 | 3 => exact hj
      | j + 4 => simp at hj
    refine Run.callPure fn_i_isFlat nm_i_isFlat hI (isFlat_calls h1') fun w' hI => ?_
    refine r_not ?_
    cases hf : flatT c.head
    · repeat (first | refine guard_true ?_ | refine guard_ne (by decide) ?_ | refine guard_undef ?_ | refine r_pickT ?_ | refine r_pickF ?_)
      exact ⟨rfl, hI⟩
    · repeat (first | refine guard_true ?_ | refine guard_ne (by decide) ?_ | refine guard_undef ?_ | refine r_pickT ?_ | refine r_pickF ?_)
      refine r_fieldL hI 0 rfl fo_iClause_1 sc_SiTerm rfl ?_
      refine r_lenSl h2 sl_SiTerm ?_
      refine r_gtr ?_
      by_cases hl : c.body.length ≤ 3
      · rw [decide_eq_true hl, decide_eq_false (show ¬ (3 : Int) < c.body.length by omega)]
        repeat (first | refine guard_true ?_ | refine guard_ne (by decide) ?_ | refine guard_undef ?_ | refine r_pickT ?_ | refine r_pickF ?_)
        refine r_fieldL hI 0 rfl fo_iClause_1 sc_SiTerm rfl ?_
        refine Run.call0 fn_x_ContainsFunc_Term nm_x_ContainsFunc_Term hI (ContainsFunc_Term_of hcb h2 (st := ()) trivial) fun v' I' S' w' => ?_
        rintro ⟨rfl, rfl, rfl⟩ _ hI
        repeat (first | refine guard_true ?_ | refine guard_ne (by decide) ?_ | refine guard_undef ?_ | refine r_pickT ?_ | refine r_pickF ?_)
        refine ⟨?_, by rw [List.append_nil] at hI; exact hI⟩
        rw [anyF_pure (fun x => !flatT x) c.body, ← any_not]; simp
      · rw [decide_eq_false hl, decide_eq_true (show (3 : Int) < c.body.length by omega)]
        repeat (first | refine guard_true ?_ | refine guard_ne (by decide) ?_ | refine guard_undef ?_ | refine r_pickT ?_ | refine r_pickF ?_)
        exact ⟨rfl, hI⟩
  intro t _ _ _ _ _ _ _ _ _ _ _ _ _ _ w'
  rintro ⟨rfl, hI⟩
  refine condV (fun hb => done hI ?_) (fun hb => ?_)
  · have hb' : (flatT c.head && (decide (c.body.length ≤ 3) && c.body.all flatT)) = false := by rw [Bool.not_eq_true'] at hb; exact hb
    rw [flatC]
    rw [← Bool.and_assoc, ← Bool.and_assoc, Bool.and_assoc (flatT c.head), hb']; rfl
  have hb' : (flatT c.head && (decide (c.body.length ≤ 3) && c.body.all flatT)) = true := by rw [Bool.not_eq_false'] at hb; exact hb
  have hfc : flatC c = (varsT c.head []).all fun n => hasI (varsL c.body []) n := by
    rw [flatC]
    rw [← Bool.and_assoc, ← Bool.and_assoc, Bool.and_assoc (flatT c.head), hb']; rfl
  refine r_fieldL hI 0 rfl fo_iClause_1 sc_SiTerm rfl ?_
  refine Run.call0 fn_i_varsOf nm_i_varsOf hI (varsOf_calls h2 (by omega)) fun v1 I' S w' => ?_
  rintro ⟨rfl, rfl⟩ _ hI
  generalize varsL c.body [] = l at hI hfc
  refine r_alloc hI zo_Sint fun b3 w' hI => ?_
  have hv1 : v1.cells = #[v1] ∧ v1.oneCell' = true := by
    have := hI.its (rowI v1 l) (by simp)
    rcases this.2 with ⟨rfl, _⟩ | ⟨g, cap, cur, rfl, _⟩ <;> exact ⟨rfl, rfl⟩
  refine r_store hI 2 (n := 1) (by rw [hv1.1]; rfl) (by rw [sc_Sint]; rfl) rfl (Nat.le_of_ble_eq_true rfl) (by rw [hv1.1]; simpa using hv1.2) fun w' hI => ?_
  refine r_field fo_iClause_0 ?_
  refine r_loadLA hI 0 [.int .i64 c.head.kind, .int .i64 c.head.n, .string c.head.name, kv] ag_iTerm rfl rfl ?_ ?_
  · intro j v hj
    match j with
    | 0 | 1 | 2 | 3 => exact hj
    | j + 4 => simp at hj
  have hI := hI.rowNil t_int 1
  refine Run.call (A := [_, _, _]) fn_i_addVars nm_i_addVars hI (addVars_calls _ S _ (.slice none 0 0) [] h1' (by simp only [List.length_nil]; omega)) fun v' I' S w' => ?_
  rintro ⟨rfl, rfl⟩ _ hI
  generalize varsT c.head [] = hv at hI hfc
  refine r_makeFunc ?_
  have hst : putCells (Value.slice none 0 0).cells 0 v1.cells.toList = #[v1] := by
    rw [hv1.1]; rfl
  have hI : Inv w [] ([.blk b1 (.cells #[.int .i64 c.head.kind, .int .i64 c.head.n, .string c.head.name, kv, ks] t_iClause), rowI v1 l, .blk b3 (.cells #[v1] t_Sint), rowI v' hv]) S w' := by
    have := hI
    simp only [List.cons_append, List.nil_append] at this
    rw [hst] at this
    exact this
  obtain ⟨S1, hle1, hrd1, hI, hback1⟩ := Inv.lend (A := [_, _, _]) hI
  have hI := hI.perm (M := [.blk b1 (.cells #[.int .i64 c.head.kind, .int .i64 c.head.n, .string c.head.name, kv, ks] t_iClause), .blk b3 (.cells #[v1] t_Sint), rowI v1 l]) (List.Perm.cons _ (List.Perm.swap _ _ _))
  obtain ⟨S2, hle2, hrd2, hI, hback2⟩ := Inv.lend (A := [_, _]) hI
  have hr1 := hrd1.ints.mono hle2 fun _ _ h => h
  have hr2 := hrd2.ints
  have hle : Sle S S2 := hle1.trans hle2
  have hcb2 : Cb Try.prog n_i_flatClause_2 _ [.pointer (some ⟨b3, 0, none⟩)] S2 (fun _ : Unit => [.blk b3 (.cells #[v1] t_Sint)]) (fun _ => True) (fun _ x => (!hasI l x, ())) (fun v x => v = .int .i64 x) hv :=
    Cb.pure [.blk b3 (.cells #[v1] t_Sint)] fn_i_flatClause_2 nm_i_flatClause_2 fun x v _ => by
      rintro rfl w1 hI
      refine calls_i_flatClause_2 ?_
      unfold sh_i_flatClause_2
      refine r_loadL hI 0 sc_Sint rfl rfl ?_
      refine Run.callPure fn_x_Contains_int nm_x_Contains_int hI (Contains_int_calls x hr2) fun w' hI => ?_
      refine r_not ?_
      exact ⟨_, _, _, rfl, hI, Ext.refl _ _ _, rfl, rfl, rfl⟩
  refine Run.call (A := [_]) fn_x_ContainsFunc_int nm_x_ContainsFunc_int hI (ContainsFunc_int_of hcb2 hr1 (st := ()) trivial) fun v' I' S' w' => ?_
  rintro ⟨rfl, rfl, rfl⟩ _ hI
  refine r_not ?_
  refine doneS hI hle ?_
  rw [anyF_pure (fun x => !hasI l x) hv, any_not, hfc]

theorem sFlatProgram_calls {p : List C} {S : Store} {v : Value} (h : RdSl S 5 (RdC S) v p) (hw : wP p ≤ 1048576) : Pure Try.prog n_s_FlatProgram [v] S (.bool (flatP p)) := by
  intro w hI
  have hlen := h.le
  simp only [maxLen] at hlen
  refine calls_s_FlatProgram ?_
  unfold sh_s_FlatProgram
  refine ⟨fun i w' => ∃ j : Nat, j ≤ p.length ∧ i = .int .i64 j ∧ (p.drop j).all flatC = p.all flatC ∧ Inv w [] [] S w', fun i _ => p.length - (intOf i).toNat, ⟨0, Nat.zero_le _, rfl, rfl, hI⟩, ?_⟩
  intro t3 _ _ _ _ _ _ _ _ _ _ _ _ _ _ _ _ _ w'
  rintro ⟨j, hj, rfl, hall, hI⟩
  refine ⟨fun t w' => t = .bool (decide (j < p.length) && progB p) ∧ Inv w [] [] S w', ?_, ?_⟩
  · refine r_lenSl h sl_SiClause ?_
    refine r_lss ?_
    by_cases hji : j < p.length
    · rw [decide_eq_true (show (j : Int) < p.length by omega), decide_eq_true hji]
      repeat (first | refine guard_true ?_ | refine guard_ne (by decide) ?_ | refine guard_undef ?_ | refine r_pickT ?_ | refine r_pickF ?_)
      refine Run.callPure fn_s_ProgramValid nm_s_ProgramValid hI (s_ProgramValid_calls h hw) fun w' hI => ?_
      repeat (first | refine guard_true ?_ | refine guard_ne (by decide) ?_ | refine guard_undef ?_ | refine r_pickT ?_ | refine r_pickF ?_)
      exact ⟨rfl, hI⟩
    · rw [decide_eq_false (show ¬ (j : Int) < p.length by omega), decide_eq_false hji]
      repeat (first | refine guard_true ?_ | refine guard_ne (by decide) ?_ | refine guard_undef ?_ | refine r_pickT ?_ | refine r_pickF ?_)
      exact ⟨rfl, hI⟩
  intro t _ _ _ _ _ _ _ w'
  rintro ⟨rfl, hI⟩
  refine condV (fun hb => ?_) (fun hb => ?_)
  · simp only [Bool.and_eq_true, decide_eq_true_eq] at hb
    obtain ⟨hj', hpv⟩ := hb
    have hstep := all_drop flatC p j hj'
    have hwm := wP_mem (List.getElem_mem hj')
    have hcv : clauseB p[j] = true := by
      simp only [progB, Bool.and_eq_true, List.all_eq_true] at hpv
      exact hpv.2 _ (List.getElem_mem hj')
    refine r_elem hI h sl_SiClause ag_iClause hj' (fun _ _ => RdC.length) fun cs' hcs' => ?_
    refine Run.callPure fn_s_l16Clause nm_s_l16Clause hI (l16Clause_calls hcs' hcv (by omega)) fun w' hI => ?_
    refine r_not ?_
    refine condV (fun hne => done hI ?_) (fun he => ?_)
    · have hne' : flatC p[j] = false := by simpa using hne
      rw [flatP, ← hall, hstep, hne']; simp
    · have he' : flatC p[j] = true := by simpa using he
      refine r_add (by omega) ?_
      exact ⟨⟨j + 1, hj', rfl, by rw [← hall, hstep, he']; rfl, hI⟩, by simp [intOf]; omega⟩
  · refine Run.callPure fn_s_ProgramValid nm_s_ProgramValid hI (s_ProgramValid_calls h hw) fun w' hI => done hI ?_
    rw [flatP]
    by_cases hji : j < p.length
    · rw [decide_eq_true hji, Bool.true_and] at hb
      rw [hb]; rfl
    · rw [← hall, List.drop_of_length_le (by omega)]; simp
theorem iFlatProgram_1_calls {c : C} {S : Store} {cs : List Value} (h : RdC S cs c) (hw : wC c ≤ 1048576) : Pure Try.prog n_i_FlatProgram_1 [.agg cs.toArray] S (.bool (!flatC c)) := by
  intro w hI
  have hl := h.length
  refine calls_i_FlatProgram_1 ?_
  unfold sh_i_FlatProgram_1
  refine r_box hI fun b1 w' hI => ?_
  refine r_loadW hI 0 ag_iClause rfl (by simpa [Value.cells] using hl) ?_
  refine Run.callPure fn_i_flatClause nm_i_flatClause hI (flatClause_calls h hw) fun w' hI => ?_
  exact r_not (done hI rfl)
theorem iFlatProgram_calls {p : List C} {S : Store} {v : Value} (h : RdSl S 5 (RdC S) v p) (hw : wP p ≤ 1048576) : Pure Try.prog n_i_FlatProgram [v] S (.bool (flatP p)) := by
  intro w hI
  refine calls_i_FlatProgram ?_
  unfold sh_i_FlatProgram
  refine Run.callPure fn_i_ProgramValid nm_i_ProgramValid hI (iProgramValid_calls h) fun w' hI => ?_
  rw [flatP]
  cases hv : progB p
  · repeat (first | refine guard_true ?_ | refine guard_ne (by decide) ?_ | refine guard_undef ?_ | refine r_pickT ?_ | refine r_pickF ?_)
    exact done hI rfl
  · repeat (first | refine guard_true ?_ | refine guard_ne (by decide) ?_ | refine guard_undef ?_ | refine r_pickT ?_ | refine r_pickF ?_)
    have hcb : Cb Try.prog n_i_FlatProgram_1 _ [] S (fun _ : Unit => []) (fun _ => True) (fun _ x => (!flatC x, ())) (fun v x => ∃ cs, v = .agg cs.toArray ∧ RdC S cs x) p :=
      Cb.pure [] fn_i_FlatProgram_1 nm_i_FlatProgram_1 fun x v hx => by
        rintro ⟨cs, rfl, hcs⟩ w1 hI
        have hwm := wP_mem hx
        exact (iFlatProgram_1_calls hcs (by omega) w1 hI).mono fun e w' ⟨he, hI⟩ => ⟨_, _, _, he, hI, Ext.refl _ _ _, rfl, rfl, rfl⟩
    refine Run.call0 fn_x_ContainsFunc_Clause nm_x_ContainsFunc_Clause hI (ContainsFunc_Clause_of hcb h (st := ()) trivial) fun v' I' S' w' => ?_
    rintro ⟨rfl, rfl, rfl⟩ _ hI
    refine r_not ?_
    repeat (first | refine guard_true ?_ | refine guard_ne (by decide) ?_ | refine guard_undef ?_ | refine r_pickT ?_ | refine r_pickF ?_)
    refine done hI ?_
    rw [anyF_pure (fun x => !flatC x) p, any_not]; rfl

end Go.Proofs.Ytnoieadimkgjcaa
