/- Clauses and programs read: spec.l4Text, FormatClause, l4Goals, ParseClause, l18Cut, ParseProgram. -/
import Derived.Test.YtmnnpgdeecnfpaaGreatZPd5
namespace Go.Proofs.YtmnnpgdeecnfpaaGreat
open Go Go.RowKit
theorem bodyF_len : ∀ (f : Nat) (l : List T) (b : Bool) (out x : Bs), bodyF f l b out = some x → out.length ≤ x.length
  | _, [], _, out, x, h => by simp only [bodyF, Option.some.injEq] at h; subst h; exact Nat.le_refl _
  | f, t :: l, b, out, x, h => by
    rw [bodyF] at h
    split at h
    · cases h
    · have := bodyF_len f _ _ _ _ h
      simp only [List.length_append] at this
      omega
section
variable {w0 w : World} {X : List Nat} {L : List Item} {S : Store} {P : Program} {K : Value → World → Prop}
attribute [local irreducible] Run CondV GuardV LoadV
theorem r_append1V (h : Inv w0 X L S w) {T ty e : TypeId} {by_ : Nat} {z v x : Value} {cs : List Bool} {css : List (List Value)} (i : Nat)
    (hT : mkOf P T = some (e, 1, by_, z)) (hi : L[i]? = some (rowG v e 1 css)) (hx : x.cells = #[x]) (h1 : x.oneCell' = true) (hfit : css.length + 1 ≤ 4294967296) (hby : by_ ≤ 32768)
    (hk : ∀ v' w', Inv w0 X (L.set i (rowG v' e 1 (css ++ [[x]]))) S w' → K v' w') :
    Run P (sBuildSlice T 1 [(0, x)]) w fun u w' => Run P (sBuiltin .append #[T, T] ty cs [v, u]) w' K := by
  refine r_slice1 h hT (by rw [hx]; rfl) (by omega) (by omega) fun b w' hI => ?_
  have hil : i < L.length := (List.getElem?_eq_some_iff.1 hi).1
  refine r_append hI i [x] hT (by omega) (by rw [List.getElem?_append_left hil]; exact hi) (by simp) (m := 1) (o := 0) ?_ (by simpa using h1) hfit hby fun v' w' hI => ?_
  · intro j u hj
    rw [hI.cellL (i := L.length) (by rw [List.getElem?_append_right (Nat.le_refl _), Nat.sub_self]; rfl)]
    rw [Nat.zero_add, hx]
    simpa using hj
  · refine hk _ _ ?_
    rw [← rowG_snoc]
    rw [List.set_append_left _ _ hil] at hI
    exact hI.sub (List.sublist_append_left _ _)
end
section
variable {S : Store}
attribute [local irreducible] Run CondV GuardV LoadV
theorem l4Text_calls {f : Nat} (hf : f ≤ 100) {c : C} {cs : List Value} {x : Bs} (h : RdC S cs c) (hx : clTxt f c = some x) (hl : x.length ≤ 1000000) : Pure Tryz.prog n_s_l4Text [.agg cs.toArray] S (.string (st x)) := by
  intro w hI
  obtain ⟨hd, ks, rfl, h1, h2⟩ := h
  have h1' := h1
  obtain ⟨kv, rfl, _⟩ := RdT.iff.1 h1
  unfold clTxt at hx
  split at hx
  · cases hx
  rename_i y hy
  split at hx
  · cases hx
  rename_i z hz
  simp only [Option.some.injEq] at hx
  have hzx : z.length + 1 = x.length := by rw [← hx, List.length_append]; rfl
  have hyz := bodyF_len _ _ _ _ _ hz
  have hb : c.body.length ≤ 9223372036854775807 := by have := h2.le; simpa [maxLen] using this
  refine calls_s_l4Text ?_
  unfold sh_s_l4Text
  refine r_box hI fun b1 w' hI => ?_
  have hI : Inv w [] [.blk b1 (.cells #[.int .i64 c.head.kind, .int .i64 c.head.n, .string c.head.name, kv, ks] t_iClause)] S w' := hI
  refine r_field fo_iClause_0 ?_
  refine r_loadLA hI 0 [.int .i64 c.head.kind, .int .i64 c.head.n, .string c.head.name, kv] ag_iTerm rfl rfl sub4 ?_
  refine Run.callPure fn_s_l2Text nm_s_l2Text hI (l2Text_ok hf _ y S _ hy (by omega) h1') fun w' hI => ?_
  refine ⟨fun a b w' => ∃ (j : Nat) (out : Bs), j ≤ c.body.length ∧ a = .int .i64 (j : Int) ∧ b = .string (st out) ∧ bodyF f (c.body.drop j) (decide (j = 0)) out = some z ∧ Inv w [] [.blk b1 (.cells #[.int .i64 c.head.kind, .int .i64 c.head.n, .string c.head.name, kv, ks] t_iClause)] S w',
    fun a _ _ => c.body.length - (intOf a).toNat, ⟨0, y, Nat.zero_le _, rfl, rfl, hz, hI⟩, ?_⟩
  intro t4 _ _ _ _ _ _ _ _ _ _ _ _ t3 _ _ _ _ _ _ _ _ _ w'
  rintro ⟨j, out, hj, rfl, rfl, hbf, hI⟩
  refine r_fieldL hI 0 rfl fo_iClause_1 sc_SiTerm rfl ?_
  refine r_lenSl h2 sl_SiTerm ?_
  refine r_lss ?_
  refine condP (fun hji => ?_) (fun hji => ?_)
  · have hj' : j < c.body.length := by omega
    rw [List.drop_eq_getElem_cons hj', bodyF] at hbf
    split at hbf
    · cases hbf
    rename_i u hu
    have hlen := bodyF_len _ _ _ _ _ hbf
    simp only [List.length_append] at hlen
    obtain ⟨pre, hpre⟩ : ∃ pre : Bs, pre = if decide (j = 0) = true then [58, 45] else [44] := ⟨_, rfl⟩
    rw [← hpre] at hbf hlen
    refine ⟨fun b w' => b = .string (st (out ++ pre)) ∧ Inv w [] [.blk b1 (.cells #[.int .i64 c.head.kind, .int .i64 c.head.n, .string c.head.name, kv, ks] t_iClause)] S w', ?_, ?_⟩
    · refine r_eql ?_
      refine condP (fun h0 => ?_) (fun h0 => ?_)
      · rw [if_pos (decide_eq_true (by omega))] at hpre
        subst hpre
        refine r_sadd (b := [58, 45]) (by omega) ?_
        exact ⟨rfl, hI⟩
      · rw [if_neg (by rw [decide_eq_true_eq]; omega)] at hpre
        subst hpre
        refine r_sadd (b := [44]) (by omega) ?_
        exact ⟨rfl, hI⟩
    intro _ _ t3 _ _ _ _ w'
    rintro ⟨rfl, hI⟩
    refine r_fieldL hI 0 rfl fo_iClause_1 sc_SiTerm rfl ?_
    refine r_elem hI h2 sl_SiTerm ag_iTerm hj' (fun _ _ => RdT.length) fun es hes => ?_
    refine Run.callPure fn_s_l2Text nm_s_l2Text hI (l2Text_ok hf _ u S _ hu (by omega) hes) fun w' hI => ?_
    refine r_sadd (by rw [List.length_append]; omega) ?_
    refine r_add (by omega) ?_
    refine ⟨⟨j + 1, out ++ pre ++ u, hj', rfl, rfl, ?_, hI⟩, by simp only [intOf, Int.toNat_natCast]; omega⟩
    rw [decide_eq_false (by omega)]
    exact hbf
  · have : j = c.body.length := by omega
    subst this
    rw [List.drop_length, bodyF] at hbf
    simp only [Option.some.injEq] at hbf
    subst hbf
    refine r_sadd (b := [46]) (by simp only [List.length_cons, List.length_nil]; omega) ?_
    exact done hI (by rw [← hx])
theorem FormatClause_calls {f : Nat} (hf : f ≤ 100) {c : C} {cs : List Value} {x : Bs} (h : RdC S cs c) (hc : clauseB c = true) (hw : wC c ≤ 1048576) (hx : clTxt f c = some x) (hl : x.length ≤ 1000000) : Pure Tryz.prog n_s_FormatClause [.agg cs.toArray] S (.string (st x)) := by
  intro w hI
  have h0 := h
  obtain ⟨hd, ks, rfl, h1, h2⟩ := h
  obtain ⟨kv, rfl, _⟩ := RdT.iff.1 h1
  refine calls_s_FormatClause ?_
  unfold sh_s_FormatClause
  refine r_box hI fun b1 w' hI => ?_
  refine r_loadW hI 0 ag_iClause rfl rfl ?_
  refine Run.callPure fn_s_ClauseValid nm_s_ClauseValid hI (sClauseValid_calls h0 hw) fun w' hI => ?_
  refine r_not ?_
  rw [hc]
  refine condV (fun hb => by cases hb) (fun _ => ?_)
  refine r_loadW hI 0 ag_iClause rfl rfl ?_
  refine Run.callPure fn_s_l4Text nm_s_l4Text hI (l4Text_calls hf h0 hx hl) fun w' hI => ?_
  exact done hI rfl
theorem l4Goals_calls {f k : Nat} {s : Bs} {i : Nat} {ts : List T} {n : Nat} (h : goalsF f k s i [] = some (ts, n)) (hs : s.length ≤ 100000) (hi : i ≤ s.length) : Tri Tryz.prog n_s_l4Goals [.string (st s), .int .i64 (i : Int)] [] S (PubLN ts n) := by
  intro w hI
  refine calls_s_l4Goals ?_
  unfold sh_s_l4Goals
  refine r_slice0 hI mk_SiTerm fun v0 w' hI => ?_
  refine ⟨fun a b w' => ∃ (k' i' : Nat) (acc : List T) (S1 : Store) (css : List (List Value)), a = .int .i64 (i' : Int) ∧ i' ≤ s.length ∧ goalsF f k' s i' acc = some (ts, n) ∧ Ext w.heap.size [] S S1 ∧ Rows 4 (RdT S1) css acc ∧ (∃ p m, b = .slice p acc.length m) ∧ Inv w [] [rowG b t_iTerm 4 css] S1 w',
    fun a _ _ => s.length + 1 - (intOf a).toNat, ⟨k, i, [], S, [], rfl, hi, h, Ext.refl _ _ _, Rows.nil _ _, ?_, hI⟩, ?_⟩
  · have hI2 : Inv w [] ([] ++ [rowG v0 t_iTerm 4 []]) S w' := hI
    obtain ⟨S1, _, hrd, _⟩ := Inv.lendExt hI2
    obtain ⟨p, m, e, _⟩ := RowRd.rows (Rows.nil 4 (RdT S)) hrd
    exact ⟨p, m, e⟩
  intro t1 _ _ _ _ _ _ _ _ t6 _ _ _ _ _ _ _ _ _ _ _ _ _ _ _ _ _ _ _ w'
  rintro ⟨k', i', acc, S1, css, rfl, hi2, hT, hE, hR, ⟨p, m, rfl⟩, hI⟩
  have hcl := hR.hc
  cases k' with
  | zero => simp [goalsF] at hT
  | succ g =>
  rw [goalsF] at hT
  split at hT
  · cases hT
  rename_i h6
  split at hT
  · cases hT
  rename_i t n' hr
  have hle := (read_le f).1 _ _ _ _ _ _ hr
  refine r_len sl_SiTerm ?_
  refine r_leqT (by omega) ?_
  refine condV (fun _ => ?_) (fun hb => by cases hb)
  refine Run.call0E fn_s_l2Read nm_s_l2Read hI (l2Read_ok f s i' 30 3 t n' S1 hr hs hi2 (by omega) (by omega)) fun v I' S2 w' => ?_
  rintro ⟨rfl, cs, rfl, hcs⟩ hE2 hI
  have hR2 := hR.monoR fun _ _ h => RdT.mono hE2.1 h
  obtain ⟨kv, rfl, _, _, _, a, q, rfl, _⟩ := RdT.iff.1 hcs
  refine r_extract (v := .agg _) rfl ?_
  refine r_extract (v := .int .i64 (n' : Int)) rfl ?_
  refine r_alloc hI zo_iTerm fun b13 w' hI => ?_
  refine r_storeW hI 1 rfl ag_iTerm rfl rfl (by simp [Value.oneCell']) fun w' hI => ?_
  refine r_lssF (by omega) ?_
  refine condV (fun hb => by cases hb) (fun _ => ?_)
  refine r_loadW hI 1 ag_iTerm rfl rfl ?_
  refine r_append1 (css := css) hI 0 _ mk_SiTerm (by omega) (by omega) rfl hcs.length hcs.one (by omega) (by omega) fun v' w' hI => ?_
  have hI : Inv w [] [rowG v' t_iTerm 4 (css ++ [[.int .i64 t.kind, .int .i64 t.n, .string t.name, .slice a t.kids.length q]])] S2 w' := hI.pick [true, false]
  have hR3 := hR2.snoc hcs hcs.length
  have hI2 : Inv w [] ([] ++ [rowG v' t_iTerm 4 (css ++ [[.int .i64 t.kind, .int .i64 t.n, .string t.name, .slice a t.kids.length q]])]) S2 w' := hI
  obtain ⟨S3, hE3, hrd, hI3⟩ := Inv.lendExt hI2
  have hrs := RowRd.rows (hR3.monoR fun _ _ h => RdT.mono hE3.1 h) hrd
  refine Run.callPure fn_s_l1Sign nm_s_l1Sign hI (l1Sign_calls s n' 44 S2) fun w' hI => ?_
  refine r_not ?_
  split at hT
  · rename_i h44
    rw [h44]
    refine condV (fun hb => by cases hb) (fun _ => ?_)
    have := sgn_some h44
    refine r_addN (a := n') (b := 1) rfl rfl (by omega) ?_
    obtain ⟨p', m', e', _⟩ := hrs
    refine ⟨⟨g, n' + 1, acc ++ [t], S2, _, rfl, by omega, hT, hE.trans hE2, hR3, ⟨p', m', e'⟩, hI⟩, ?_⟩
    simp only [intOf, Int.toNat_natCast]
    omega
  · rename_i h44
    rw [Bool.eq_false_iff.2 h44]
    refine condV (fun _ => ?_) (fun hb => by cases hb)
    simp only [Option.some.injEq, Prod.mk.injEq] at hT
    obtain ⟨rfl, rfl⟩ := hT
    have hI2 : Inv w [] ([] ++ [rowG v' t_iTerm 4 (css ++ [[.int .i64 t.kind, .int .i64 t.n, .string t.name, .slice a t.kids.length q]])]) S2 w' := hI
    obtain ⟨S4, hE4, hrd, hI⟩ := Inv.lendExt hI2
    have hrs := RowRd.rows (hR3.monoR fun _ _ h => RdT.mono hE4.1 h) hrd
    exact ⟨_, [], S4, rfl, hI, (hE.trans hE2).trans hE4, rfl, _, rfl, hrs⟩
abbrev PubCB (c : C) (b : Bool) : Value → List Item → Store → Prop := fun v I' S' => I' = [] ∧ ∃ cs, v = .tuple #[.agg cs.toArray, .bool b] ∧ RdC S' cs c
theorem ParseClause_calls {f : Nat} (hf : f ≤ 100) {s : Bs} {c : C} (h : clauseF f s = some c) : Tri Tryz.prog n_s_ParseClause [.string (st s)] [] S (PubCB c true) := by
  intro w hI
  refine calls_s_ParseClause ?_
  unfold sh_s_ParseClause
  unfold clauseF at h
  split at h
  · cases h
  rename_i hs
  split at h
  · cases h
  rename_i hd n hr
  have hle := (read_le f).1 _ _ _ _ _ _ hr
  have hfin : ∃ b n2, c = ⟨hd, b⟩ ∧ finF f s c n2 = some c ∧ ((sgn s n 58 = true ∧ sgn s (n + 1) 45 = true ∧ goalsF f 8 s (n + 2) [] = some (b, n2)) ∨ (¬ (sgn s n 58 = true ∧ sgn s (n + 1) 45 = true) ∧ b = [] ∧ n2 = n)) := by
    have hcc : ∀ (c' : C) (m : Nat), finF f s c' m = some c → c' = c := fun c' m h => by
      unfold finF at h
      split at h
      · exact Option.some.inj h
      · cases h
    split at h
    · rename_i h58
      split at h
      · cases h
      rename_i b n2 hg
      have e := hcc _ _ h
      subst e
      exact ⟨b, n2, rfl, h, .inl ⟨h58.1, h58.2, hg⟩⟩
    · rename_i h58
      have e := hcc _ _ h
      subst e
      exact ⟨[], n, rfl, h, .inr ⟨h58, rfl, rfl⟩⟩
  clear h
  obtain ⟨b, n2, rfl, hfin, hcase⟩ := hfin
  unfold finF at hfin
  split at hfin
  case isFalse => cases hfin
  rename_i hq
  obtain ⟨hq1, hq2, hq3, hq4, hq5⟩ := hq
  clear hfin
  refine r_alloc hI zo_iClause fun b2 w' hI => ?_
  refine r_lenB un_string ?_
  refine r_gtrF (by omega) ?_
  refine condV (fun hb => by cases hb) (fun _ => ?_)
  refine Run.call0E fn_s_l2Read nm_s_l2Read hI (l2Read_ok f s 0 30 3 hd n S hr (by omega) (by omega) (by omega) (by omega)) fun v I' S1 w' => ?_
  rintro ⟨rfl, cs, rfl, hcs⟩ hE1 hI
  obtain ⟨kv, rfl, _, _, _, a, q, rfl, _⟩ := RdT.iff.1 hcs
  refine r_extract (v := .agg _) rfl ?_
  refine r_extract (v := .int .i64 (n : Int)) rfl ?_
  refine r_alloc hI zo_iTerm fun b4 w' hI => ?_
  refine r_storeW hI 1 rfl ag_iTerm rfl rfl (by simp [Value.oneCell']) fun w' hI => ?_
  refine r_lssF (by omega) ?_
  refine condV (fun hb => by cases hb) (fun _ => ?_)
  refine r_loadW hI 1 ag_iTerm rfl rfl ?_
  refine r_buildHead ?_
  refine r_alloc hI zo_iClause fun b6 w' hI => ?_
  refine r_storeW hI 2 rfl ag_iClause rfl rfl (by simp [Value.oneCell']) fun w' hI => ?_
  obtain ⟨B2, hB2⟩ : ∃ B2, B2 = Item.blk b2 (.cells #[.int .i64 0, .int .i64 0, .string ⟨#[]⟩, .slice none 0 0, .slice none 0 0] t_iClause) := ⟨_, rfl⟩
  obtain ⟨B4, hB4⟩ : ∃ B4, B4 = Item.blk b4 (.cells #[.int .i64 hd.kind, .int .i64 hd.n, .string hd.name, .slice a hd.kids.length q] t_iTerm) := ⟨_, rfl⟩
  have hI : Inv w [] [B2, B4, .blk b6 (.cells #[.int .i64 hd.kind, .int .i64 hd.n, .string hd.name, .slice a hd.kids.length q, .slice none 0 0] t_iClause)] S1 w' := by rw [hB2, hB4]; exact hI
  refine ⟨fun v w' => ∃ (kb : Value) (S2 : Store), v = .int .i64 (n2 : Int) ∧ Ext w.heap.size [] S S2 ∧ RdT S2 [.int .i64 hd.kind, .int .i64 hd.n, .string hd.name, .slice a hd.kids.length q] hd ∧ RdSl S2 4 (RdT S2) kb b ∧
      Inv w [] [B2, B4, .blk b6 (.cells #[.int .i64 hd.kind, .int .i64 hd.n, .string hd.name, .slice a hd.kids.length q, kb] t_iClause)] S2 w', ?_, ?_⟩
  · refine ⟨fun v w' => v = .bool (sgn s n 58 && sgn s (n + 1) 45) ∧ Inv w [] [B2, B4, .blk b6 (.cells #[.int .i64 hd.kind, .int .i64 hd.n, .string hd.name, .slice a hd.kids.length q, .slice none 0 0] t_iClause)] S1 w', ?_, ?_⟩
    · refine Run.callPure fn_s_l1Sign nm_s_l1Sign hI (l1Sign_calls s n 58 S1) fun w' hI => ?_
      cases h58 : sgn s n 58
      · repeat (first | refine guard_true ?_ | refine guard_ne (by decide) ?_ | refine guard_undef ?_ | refine r_pickT ?_ | refine r_pickF ?_)
        exact ⟨by rw [Bool.false_and], hI⟩
      · repeat (first | refine guard_true ?_ | refine guard_ne (by decide) ?_ | refine guard_undef ?_ | refine r_pickT ?_ | refine r_pickF ?_)
        refine r_addN (a := n) (b := 1) rfl rfl (by omega) ?_
        refine Run.callPure fn_s_l1Sign nm_s_l1Sign hI (l1Sign_calls s (n + 1) 45 S1) fun w' hI => ?_
        repeat (first | refine guard_true ?_ | refine guard_ne (by decide) ?_ | refine guard_undef ?_ | refine r_pickT ?_ | refine r_pickF ?_)
        exact ⟨by rw [Bool.true_and], hI⟩
    intro t29 _ _ _ _ _ _ _ _ w'
    rintro ⟨rfl, hI⟩
    rcases hcase with ⟨h1, h2, hg⟩ | ⟨h1, rfl, rfl⟩
    · rw [h1, h2]
      refine condV (fun _ => ?_) (fun hb => by cases hb)
      have h3 := sgn_some h2
      refine r_addN (a := n) (b := 2) rfl rfl (by omega) ?_
      refine Run.call0E fn_s_l4Goals nm_s_l4Goals hI (l4Goals_calls hg (by omega) (by omega)) fun v I' S2 w' => ?_
      rintro ⟨rfl, u, rfl, hu⟩ hE2 hI
      obtain ⟨p, m, rfl, _⟩ := id hu
      refine r_extract (v := .slice p b.length m) rfl ?_
      refine r_extract (v := .int .i64 (n2 : Int)) rfl ?_
      refine r_fieldSt hI 2 rfl fo_iClause_1 sc_SiTerm rfl rfl rfl fun w' hI => ?_
      exact ⟨_, S2, rfl, hE1.trans hE2, RdT.mono hE2.1 hcs, hu, hI⟩
    · have e : (sgn s n2 58 && sgn s (n2 + 1) 45) = false := by
        rw [Bool.eq_false_iff, ne_eq, Bool.and_eq_true]; exact h1
      rw [e]
      refine condV (fun hb => by cases hb) (fun _ => ?_)
      exact ⟨_, S1, rfl, hE1, hcs, rd_none S1, hI⟩
  intro t5 _ _ _ _ _ _ _ _ _ _ _ _ _ _ _ _ _ w'
  rintro ⟨kb, S2, rfl, hE2, hhd, hb, hI⟩
  have hC : RdC S2 [.int .i64 hd.kind, .int .i64 hd.n, .string hd.name, .slice a hd.kids.length q, kb] ⟨hd, b⟩ := ⟨[.int .i64 hd.kind, .int .i64 hd.n, .string hd.name, .slice a hd.kids.length q], kb, rfl, hhd, hb⟩
  refine ⟨fun v w' => v = .bool false ∧ Inv w [] [B2, B4, .blk b6 (.cells #[.int .i64 hd.kind, .int .i64 hd.n, .string hd.name, .slice a hd.kids.length q, kb] t_iClause)] S2 w', ?_, ?_⟩
  · refine r_lenB un_string ?_
    refine r_sub (by omega) ?_
    refine r_neq ?_
    rw [decide_eq_true (show (n2 : Int) = (s.length : Int) - 1 by omega)]
    refine guard_true (b := false) ?_
    refine Run.callPure fn_s_l1Sign nm_s_l1Sign hI (l1Sign_calls s n2 46 S2) fun w' hI => ?_
    refine r_not ?_
    rw [hq2]
    refine r_pickF ?_
    refine guard_true (b := false) ?_
    refine r_loadW hI 2 ag_iClause rfl rfl ?_
    refine Run.callPure fn_s_FormatClause nm_s_FormatClause hI (FormatClause_calls hf hC hq3 (by omega) hq5 (by omega)) fun w' hI => ?_
    refine r_bneql ?_
    rw [decide_eq_true rfl]
    refine r_pickF ?_
    exact ⟨rfl, hI⟩
  intro t54 _ _ _ _ _ _ _ _ _ _ _ _ _ _ _ _ w'
  rintro ⟨rfl, hI⟩
  refine condV (fun hb => by cases hb) (fun _ => ?_)
  refine r_loadW hI 2 ag_iClause rfl rfl ?_
  refine Run.call0E fn_s_l4Copy nm_s_l4Copy hI (l4Copy_calls hC (by omega)) fun v I' S3 w' => ?_
  rintro ⟨rfl, ds, M, rfl, rfl, hT⟩ hE3 hI
  obtain ⟨S4, hI, hE4, hins⟩ := hI.pubExt
  have hR4 := hT.rd hins
  have hl5 := hR4.length
  have h15 := hT.one
  subst hB2
  refine r_storeW hI 0 rfl ag_iClause (by simpa using hl5) rfl (by simpa using h15) fun w' hI => ?_
  refine loadV_W hI 0 ag_iClause rfl (by simpa using hl5) ?_
  exact ⟨_, [], S4, rfl, hI.nil, (hE2.trans hE3).trans hE4, rfl, _, rfl, hR4⟩
def RdSt (cs : List Value) (l : Bs) : Prop := cs = [.string (st l)]
theorem l18Cut_calls (s : Bs) (c : Nat) (hs : s.length ≤ 100000) : Tri Tryz.prog n_s_l18Cut [.string (st s), .int .u8 (c : Int)] [] S fun v I' S' => I' = [] ∧ RdSl S' 1 RdSt v (cutF s c s.length 0 0 []) := by
  intro w hI
  refine calls_s_l18Cut ?_
  unfold sh_s_l18Cut
  refine r_slice0 hI mk_Sstring fun v0 w' hI => ?_
  obtain ⟨R, hR⟩ : ∃ R, R = cutF s c s.length 0 0 [] := ⟨_, rfl⟩
  rw [← hR]
  refine ⟨fun t u v w' => ∃ (i fr : Nat) (acc : List Bs) (css : List (List Value)), t = .int .i64 (i : Int) ∧ u = .int .i64 (fr : Int) ∧ acc.length ≤ i ∧ ((i ≤ s.length ∧ fr ≤ i ∧ cutF s c (s.length - i) i fr acc = R) ∨ (i = s.length + 1 ∧ acc = R)) ∧ Rows 1 RdSt css acc ∧ Inv w [] [rowG v t_string 1 css] S w',
    fun t _ _ _ => s.length + 2 - (intOf t).toNat, ⟨0, 0, [], [], rfl, rfl, Nat.le_refl _, .inl ⟨Nat.zero_le _, Nat.le_refl _, hR.symm⟩, Rows.nil _ _, hI⟩, ?_⟩
  intro t7 _ _ t6 _ _ t5 _ _ _ _ _ _ _ _ _ _ _ _ _ _ _ _ _ _ _ _ _ _ w'
  rintro ⟨i, fr, acc, css, rfl, rfl, hal, hc, hRw, hI⟩
  have hcl := hRw.hc
  refine r_lenB un_string ?_
  refine r_leq ?_
  refine condP (fun hi => ?_) (fun hi => ?_)
  · have hi' : i ≤ s.length := by omega
    obtain ⟨_, hfr, hcut⟩ : i ≤ s.length ∧ fr ≤ i ∧ cutF s c (s.length - i) i fr acc = R := by
      rcases hc with h | h
      · exact h
      · omega
    obtain ⟨br, hbr⟩ : ∃ br, br = (decide (i = s.length) || sgn s i c) := ⟨_, rfl⟩
    refine ⟨fun u v w' => ∃ (fr' : Nat) (acc' : List Bs) (css' : List (List Value)), u = .int .i64 (fr' : Int) ∧ acc'.length ≤ i + 1 ∧ fr' ≤ i + 1 ∧ acc' = (if br = true then acc ++ [cut s fr i] else acc) ∧ fr' = (if br = true then i + 1 else fr) ∧ Rows 1 RdSt css' acc' ∧ Inv w [] [rowG v t_string 1 css'] S w', ?_, ?_⟩
    · refine ⟨fun b w' => b = .bool br ∧ Inv w [] [rowG t5 t_string 1 css] S w', ?_, ?_⟩
      · refine r_lenB un_string ?_
        by_cases he : i = s.length
        · refine r_eqlT (by omega) ?_
          repeat (first | refine guard_true ?_ | refine guard_ne (by decide) ?_ | refine guard_undef ?_ | refine r_pickT ?_ | refine r_pickF ?_)
          exact ⟨by rw [hbr, decide_eq_true he, Bool.true_or], hI⟩
        · refine r_eqlF (by omega) ?_
          repeat (first | refine guard_true ?_ | refine guard_ne (by decide) ?_ | refine guard_undef ?_ | refine r_pickT ?_ | refine r_pickF ?_)
          have hlt : i < s.length := by omega
          refine r_byte un_string hlt ?_
          refine r_eql ?_
          repeat (first | refine guard_true ?_ | refine guard_ne (by decide) ?_ | refine guard_undef ?_ | refine r_pickT ?_ | refine r_pickF ?_)
          refine ⟨?_, hI⟩
          rw [hbr, decide_eq_false he, Bool.false_or, sgn_lt hlt]
          congr 1
          rw [decide_eq_decide]
          omega
      intro t25 _ _ _ _ _ _ _ _ _ _ w'
      rintro ⟨rfl, hI⟩
      refine condV (fun hb => ?_) (fun hb => ?_)
      · refine r_scut un_string hfr hi' ?_
        refine r_append1V (css := css) hI 0 mk_Sstring rfl rfl rfl (by omega) (by omega) fun v' w' hI => ?_
        refine r_addN (a := i) (b := 1) rfl rfl (by omega) ?_
        refine ⟨i + 1, acc ++ [cut s fr i], _, rfl, by rw [List.length_append]; simp only [List.length_cons, List.length_nil]; omega, Nat.le_refl _, by rw [if_pos hb], by rw [if_pos hb], hRw.snoc rfl rfl, hI⟩
      · exact ⟨fr, acc, css, rfl, by omega, by omega, by rw [if_neg (by rw [hb]; decide)], by rw [if_neg (by rw [hb]; decide)], hRw, hI⟩
    intro t6 _ _ t5 _ _ _ _ _ _ _ _ _ _ _ _ _ _ _ _ _ _ w'
    rintro ⟨fr', acc', css', rfl, hal', hfr', hacc', hfe, hRw', hI⟩
    refine r_addN (a := i) (b := 1) rfl rfl (by omega) ?_
    refine ⟨⟨i + 1, fr', acc', css', rfl, rfl, hal', ?_, hRw', hI⟩, by simp only [intOf, Int.toNat_natCast]; omega⟩
    by_cases he : i = s.length
    · right
      refine ⟨by rw [he], ?_⟩
      rw [he, Nat.sub_self, cutF, ← he] at hcut
      rw [hacc', if_pos (by rw [hbr, decide_eq_true he, Bool.true_or])]
      exact hcut
    · left
      refine ⟨by omega, hfr', ?_⟩
      rw [show s.length - i = (s.length - (i + 1)) + 1 by omega, cutF] at hcut
      rw [hbr, decide_eq_false he, Bool.false_or] at hacc' hfe
      split at hcut
      · rename_i hsg
        rw [if_pos hsg] at hacc' hfe
        rw [hacc', hfe]
        exact hcut
      · rename_i hsg
        rw [if_neg hsg] at hacc' hfe
        rw [hacc', hfe]
        exact hcut
  · obtain ⟨_, rfl⟩ : i = s.length + 1 ∧ acc = R := by
      rcases hc with h | h
      · omega
      · exact h
    have hI2 : Inv w [] ([] ++ [rowG t5 t_string 1 css]) S w' := hI
    obtain ⟨S1, hE1, hrd, hI⟩ := Inv.lendExt hI2
    exact ⟨_, [], S1, rfl, hI, hE1, rfl, RowRd.rows hRw hrd⟩
theorem clausesF_cons {f : Nat} {ls : List Bs} {i : Nat} (h : i < ls.length) (acc : List C) : clausesF f (ls.drop i) acc = match clauseF f ls[i] with
    | none => none
    | some c => clausesF f (ls.drop (i + 1)) (acc ++ [c]) := by
  rw [List.drop_eq_getElem_cons h, clausesF]
  cases clauseF f ls[i] <;> rfl
theorem ParseProgram_calls {f : Nat} (hf : f ≤ 100) {s : Bs} {p : List C} (h : progF f s = some p) (hs : s.length ≤ 100000) : Tri Tryz.prog n_s_ParseProgram [.string (st s)] [] S fun v I' S' => ∃ u css, v = .tuple #[u, .bool true] ∧ I' = [rowG u t_iClause 5 css] ∧ Rows 5 (RdC S') css p := by
  intro w hI
  refine calls_s_ParseProgram ?_
  unfold sh_s_ParseProgram
  unfold progF linesF at h
  refine r_slice0 hI mk_SiClause fun v0 w' hI => ?_
  refine Run.call0E fn_s_l18Cut nm_s_l18Cut hI (l18Cut_calls s 10 hs) fun v I' S1 w' => ?_
  rintro ⟨rfl, hls⟩ hE1 hI
  have hI : Inv w [] [rowG v0 t_iClause 5 []] S1 w' := hI
  obtain ⟨ls, hlsd⟩ : ∃ ls, ls = cutF s 10 s.length 0 0 [] := ⟨_, rfl⟩
  rw [← hlsd] at hls h
  simp only [] at h
  split at h
  · cases h
  rename_i hc
  simp only [not_or, ne_eq, Classical.not_not] at hc
  obtain ⟨hc1, hc2⟩ := hc
  have hl0 : 0 < ls.length := by
    cases ls with
    | nil => simp at hc2
    | cons a l => simp
  have hlast : ls[ls.length - 1] = [] := by
    rw [List.getLast?_eq_getElem?, List.getElem?_eq_getElem (by omega)] at hc2
    exact Option.some.inj hc2
  refine ⟨fun b w' => b = .bool false ∧ Inv w [] [rowG v0 t_iClause 5 []] S1 w', ?_, ?_⟩
  · refine r_lenSl hls sl_Sstring ?_
    refine r_gtrF (by omega) ?_
    repeat (first | refine guard_true ?_ | refine guard_ne (by decide) ?_ | refine guard_undef ?_ | refine r_pickT ?_ | refine r_pickF ?_)
    refine r_lenSl hls sl_Sstring ?_
    refine r_subN (a := ls.length) (b := 1) rfl rfl (by omega) (by omega) ?_
    have hlt : ls.length - 1 < ls.length := by omega
    obtain ⟨b, o, cap, c, E, fz, hv, hS, hR⟩ := hls.at_ hlt
    subst hv
    refine r_indexAddr sl_Sstring hlt ?_
    refine r_load sc_string ((hI.cellS hS).trans (cellsAt_get hR 0 _ rfl)) ?_
    refine r_bneql (b := []) ?_
    rw [decide_eq_true hlast]
    repeat (first | refine guard_true ?_ | refine guard_ne (by decide) ?_ | refine guard_undef ?_ | refine r_pickT ?_ | refine r_pickF ?_)
    exact ⟨rfl, hI⟩
  intro t23 _ _ _ _ _ _ _ _ _ _ _ w'
  rintro ⟨rfl, hI⟩
  refine condV (fun hb => by cases hb) (fun _ => ?_)
  refine ⟨fun a b w' => ∃ (i : Nat) (acc : List C) (S2 : Store) (css : List (List Value)), a = .int .i64 (i : Int) ∧ i + 1 ≤ ls.length ∧ acc.length = i ∧ clausesF f (ls.dropLast.drop i) acc = some p ∧ Sle S1 S2 ∧ Ext w.heap.size [] S S2 ∧ Rows 5 (RdC S2) css acc ∧ Inv w [] [rowG b t_iClause 5 css] S2 w',
    fun a _ _ => ls.length - (intOf a).toNat, ⟨0, [], S1, [], rfl, by omega, rfl, h, Sle.refl _, hE1, Rows.nil _ _, hI⟩, ?_⟩
  intro t6 _ _ t4 _ _ _ _ _ _ _ _ _ _ _ _ _ _ _ _ _ _ _ _ _ _ _ _ w'
  rintro ⟨i, acc, S2, css, rfl, hi, hal, hcl, hle2, hE2, hR, hI⟩
  have hcs := hR.hc
  refine r_addN (a := i) (b := 1) rfl rfl (by omega) ?_
  refine r_lenSl hls sl_Sstring ?_
  refine r_lss ?_
  have hdl : ls.dropLast.length = ls.length - 1 := List.length_dropLast
  refine condP (fun hlt => ?_) (fun hge => ?_)
  · have hi' : i < ls.length := by omega
    have hi2 : i < ls.dropLast.length := by omega
    rw [clausesF_cons hi2] at hcl
    have eg : ls.dropLast[i] = ls[i] := List.getElem_dropLast _
    rw [eg] at hcl
    obtain ⟨b, o, cap, c, E, fz, hv, hS, hRr⟩ := hls.at_ hi'
    subst hv
    split at hcl
    · cases hcl
    rename_i cl hclf
    refine r_indexAddr sl_Sstring hi' ?_
    refine r_load sc_string ((hI.cellS (hle2 _ _ hS)).trans (cellsAt_get hRr 0 _ rfl)) ?_
    refine Run.call0E fn_s_ParseClause nm_s_ParseClause hI (ParseClause_calls hf hclf) fun v I' S3 w' => ?_
    rintro ⟨rfl, ds, rfl, hds⟩ hE3 hI
    have hl5 := hds.length
    have hR3 := hR.monoR fun _ _ h => RdC.mono hE3.1 h
    refine r_extract (v := .agg ds.toArray) rfl ?_
    refine r_extract (v := .bool true) rfl ?_
    refine r_alloc hI zo_iClause fun b7 w' hI => ?_
    refine r_storeW hI 1 rfl ag_iClause (by simpa using hl5) rfl (by simpa using hds.one) fun w' hI => ?_
    refine r_not ?_
    refine condV (fun hb => by cases hb) (fun _ => ?_)
    refine r_loadW hI 1 ag_iClause rfl (by simpa using hl5) ?_
    refine r_append1 (css := css) hI 0 _ mk_SiClause (by omega) (by omega) rfl hl5 hds.one (by omega) (by omega) fun v' w' hI => ?_
    have hI : Inv w [] [rowG v' t_iClause 5 (css ++ [ds])] S3 w' := hI.pick [true, false]
    refine r_addN (a := i) (b := 1) rfl rfl (by omega) ?_
    exact ⟨⟨i + 1, acc ++ [cl], S3, _, rfl, by omega, by rw [List.length_append, hal]; rfl, hcl, hle2.trans hE3.1, hE2.trans hE3, hR3.snoc hds hl5, hI⟩, by simp only [intOf, Int.toNat_natCast]; omega⟩
  · have hi2 : ls.dropLast.length ≤ i := by omega
    rw [List.drop_eq_nil_of_le hi2, clausesF] at hcl
    simp only [Option.some.injEq] at hcl
    subst hcl
    exact ⟨_, _, S2, rfl, hI, hE2, _, css, rfl, rfl, hR⟩
end
end Go.Proofs.YtmnnpgdeecnfpaaGreat

/- Terms drawn: literal lists, appends in any order, spec.l1Draw, l1Some, l1Mutate: what is drawn is readable and light. -/
namespace Go.Proofs.YtmnnpgdeecnfpaaGreat
open Go Go.RowKit
theorem stg0 {b : Bool} {n : Nat} (h : b = decide (1 ≤ n)) (h' : b = false) : n = 0 := by
  rw [h', eq_comm, decide_eq_false_iff_not] at h; omega
theorem stgS {a b : Bool} {k n : Nat} (h : a = decide (k ≤ n)) (ha : a = true) (h' : b = decide (k + 1 ≤ n)) (hb : b = false) : n = k := by
  rw [ha, eq_comm, decide_eq_true_iff] at h
  rw [hb, eq_comm, decide_eq_false_iff_not] at h'
  omega
theorem stgE {b : Bool} {n m : Nat} (hl : n ≤ m) (h : b = decide (m ≤ n)) (hb : b = true) : n = m := by
  rw [hb, eq_comm, decide_eq_true_iff] at h; omega
theorem stgL {b l : Bool} {n m : Nat} (h : b = decide (m ≤ n)) (k : b = true → l = true) (hl : l = false) : n < m := by
  cases b
  · rw [eq_comm, decide_eq_false_iff_not] at h; omega
  · rw [k rfl] at hl; cases hl
def lstr : List (Nat × Value) → List ByteArray
  | (_, .string s) :: l => s :: lstr l
  | _ => []
def lint : List (Nat × Value) → List Int
  | (_, .int _ n) :: l => n :: lint l
  | _ => []
theorem cells1 {α : Type} {f : α → Value} (l : List α) {i : Nat} (hi : i < l.length) : cellsAt (l.map f).toArray i 1 = [f l[i]] := by
  rw [cellsAt, List.drop_eq_getElem_cons (by simpa using hi)]
  simp
theorem RdSl.monoU {S S' : Store} {v : Value} {ys : List Nat} (hs : Sle S S') (h : RdSl S 1 RdU8 v ys) : RdSl S' 1 RdU8 v ys := h.mono hs fun _ _ h => h
theorem rd_one {S : Store} {b : Nat} {E : TypeId} {cs : List Value} {t : T} (hS : S b = some (.cells cs.toArray E)) (h : RdT S cs t) : RdSl S 4 (RdT S) (.slice (some ⟨b, 0, none⟩) 1 1) [t] := by
  refine ⟨_, 1, rfl, Nat.le_refl _, by simp [maxLen], .inr ⟨b, 0, _, E, (0, 0), rfl, hS, fun i hi => ?_⟩⟩
  match i, hi with
  | 0, _ =>
    have e : cellsAt cs.toArray (0 + 0 * 4) 4 = cs := by
      rw [cellsAt]
      simpa using List.take_of_length_le (Nat.le_of_eq h.length)
    rw [e]
    exact h
section
variable {w0 w : World} {X : List Nat} {L A : List Item} {S : Store} {K : Value → World → Prop}
attribute [local irreducible] Run CondV GuardV LoadV
theorem Inv.last (h : Inv w0 X L S w) (i : Nat) {it : Item} (hi : L[i]? = some it) : Inv w0 X (L.eraseIdx i ++ [it]) S w := by
  refine h.perm ?_
  obtain ⟨h1, _⟩ := set_split hi it
  rw [List.eraseIdx_eq_take_drop_succ]
  conv => rhs; rw [h1]
  rw [List.append_assoc]
  exact List.Perm.append_left _ List.perm_append_comm
theorem r_strs {n : Nat} {ps : List (Nat × Value)} (h : Inv w0 X L S w)
    (hr : (sBuildSlice t_Sstring n ps).run Tryz.prog w = .ok (.value (.slice (some ⟨w.heap.size, 0, none⟩) n n)) { w with heap := w.heap.push (.cells ((lstr ps).map Value.string).toArray t_string) })
    (hn : (lstr ps).length = n) (hm : n ≤ 1000) (hk : ∀ v S1 w', Ext w0.heap.size X S S1 → RdSl S1 1 RdStr v (lstr ps) → Inv w0 X L S1 w' → K v w') : Run Tryz.prog (sBuildSlice t_Sstring n ps) w K := by
  refine r_made (v := fun b => .slice (some ⟨b, 0, none⟩) n n) (o := .cells ((lstr ps).map Value.string).toArray t_string) h hr fun b w' hI => ?_
  obtain ⟨S1, hI, hE, hS⟩ := hI.pub1
  refine hk _ S1 w' hE ?_ hI
  exact RdSl.ofCells hS hn (by simp only [maxLen]; omega) fun i hi => cells1 _ hi
theorem r_ints {n : Nat} {ps : List (Nat × Value)} (h : Inv w0 X L S w)
    (hr : (sBuildSlice t_Sint n ps).run Tryz.prog w = .ok (.value (.slice (some ⟨w.heap.size, 0, none⟩) n n)) { w with heap := w.heap.push (.cells ((lint ps).map (Value.int .i64)).toArray t_int) })
    (hn : (lint ps).length = n) (hm : n ≤ 1000) (hk : ∀ v S1 w', Ext w0.heap.size X S S1 → RdSl S1 1 RdInt v (lint ps) → Inv w0 X L S1 w' → K v w') : Run Tryz.prog (sBuildSlice t_Sint n ps) w K := by
  refine r_made (v := fun b => .slice (some ⟨b, 0, none⟩) n n) (o := .cells ((lint ps).map (Value.int .i64)).toArray t_int) h hr fun b w' hI => ?_
  obtain ⟨S1, hI, hE, hS⟩ := hI.pub1
  refine hk _ S1 w' hE ?_ hI
  exact RdSl.ofCells hS hn (by simp only [maxLen]; omega) fun i hi => cells1 _ hi
def orSt (Q : Prop) (R : Nat → Prop) : Nat → Prop
  | 0 => Q
  | n + 1 => R n
/- one value drawn by a call, put behind a row: the stages -/
def apSt (w0 : World) (X : List Nat) (b : Nat) (c : Array Value) (d : Nat) (E : TypeId) (kv : Value) (css : List (List Value)) (A : Nat → List Item) (Q : List Value → Nat → Store → Prop) (xv xs xa : Value) (w' : World) : Nat → Prop
  | 0 => ∃ p1 S1 cs, Q cs p1 S1 ∧ (cs.length = 4 ∧ ∀ u ∈ cs, u.oneCell' = true) ∧ xv = .agg cs.toArray ∧ Inv w0 X (.blk b (.cells c E) :: rowG kv t_iTerm 4 css :: A p1) S1 w'
  | 1 => ∃ p1 S1 cs b8, Q cs p1 S1 ∧ (cs.length = 4 ∧ ∀ u ∈ cs, u.oneCell' = true) ∧ xs = .slice (some ⟨b8, 0, none⟩) 1 1 ∧ Inv w0 X (.blk b (.cells c E) :: rowG kv t_iTerm 4 css :: (A p1 ++ [.blk b8 (.cells cs.toArray t_iTerm)])) S1 w'
  | 2 => ∃ p1 S1 cs, Q cs p1 S1 ∧ (cs.length = 4 ∧ ∀ u ∈ cs, u.oneCell' = true) ∧ Inv w0 X (.blk b (.cells c E) :: rowG xa t_iTerm 4 (css ++ [cs]) :: A p1) S1 w'
  | 3 => ∃ p1 S1 cs, Q cs p1 S1 ∧ (cs.length = 4 ∧ ∀ u ∈ cs, u.oneCell' = true) ∧ Inv w0 X (.blk b (.cells (c.setIfInBounds d xa) E) :: rowG xa t_iTerm 4 (css ++ [cs]) :: A p1) S1 w'
  | _ => False
variable {b d : Nat} {c : Array Value} {E : TypeId} {kv : Value} {css : List (List Value)} {F : Nat → List Item} {Q : List Value → Nat → Store → Prop} {xv xs xa : Value}
theorem ap_blk {n : Nat} (h : apSt w0 X b c d E kv css F Q xv xs xa w n) (hn : n < 3) : w.cell? ⟨b, d, none⟩ = c[d]? := by
  rcases n with _ | _ | _ | n
  · obtain ⟨p1, S1, cs, _, _, _, hI⟩ := h
    exact hI.cellL (i := 0) rfl
  · obtain ⟨p1, S1, cs, b8, _, _, _, hI⟩ := h
    exact hI.cellL (i := 0) rfl
  · obtain ⟨p1, S1, cs, _, _, hI⟩ := h
    exact hI.cellL (i := 0) rfl
  · omega
theorem ap1 {B : Prop} (h : orSt B (apSt w0 X b c d E kv css F Q xv xs xa w) 1) (hk : ∀ u w', orSt B (apSt w0 X b c d E kv css F Q xv u xa w') 2 → K u w') : Run Tryz.prog (sBuildSlice t_SiTerm 1 [(0, xv)]) w K := by
  obtain ⟨p1, S1, cs, hQ, hl, rfl, hI⟩ := h
  refine r_slice1 hI mk_SiTerm (by simp [Value.cells, hl.1]) (by omega) (by omega) fun b8 w' hI => ?_
  exact hk _ _ ⟨p1, S1, cs, b8, hQ, hl, rfl, hI⟩
theorem ap2 {B : Prop} {ty : TypeId} {bs : List Bool} (h : orSt B (apSt w0 X b c d E kv css F Q xv xs xa w) 2) (hfit : css.length ≤ 1000000) (hk : ∀ u w', orSt B (apSt w0 X b c d E kv css F Q xv xs u w') 3 → K u w') : Run Tryz.prog (sBuiltin .append #[t_SiTerm, t_SiTerm] ty bs [kv, xs]) w K := by
  obtain ⟨p1, S1, cs, b8, hQ, hl, rfl, hI⟩ := h
  have hblk : (Item.blk b (.cells c E) :: rowG kv t_iTerm 4 css :: (F p1 ++ [.blk b8 (.cells cs.toArray t_iTerm)]))[(F p1).length + 1 + 1]? = some (.blk b8 (.cells cs.toArray t_iTerm)) := by
    rw [List.getElem?_cons_succ, List.getElem?_cons_succ, List.getElem?_append_right (Nat.le_refl _), Nat.sub_self]; rfl
  refine r_append hI 1 cs mk_SiTerm (by omega) rfl (by rw [hl.1]) (m := 1) (o := 0) ?_ hl.2 (by omega) (by omega) fun v' w_ hI => ?_
  · intro i u hi
    rw [hI.cellL hblk, Nat.zero_add]
    simpa using hi
  rw [rowG_snoc] at hI
  refine hk _ _ ⟨p1, S1, cs, hQ, hl, ?_⟩
  exact hI.sub (((List.sublist_append_left _ _).cons_cons _).cons_cons _)
theorem ap3 {B : Prop} {ty : TypeId} (h : orSt B (apSt w0 X b c d E kv css F Q xv xs xa w) 3) (hd : d < c.size) {K : Value → World → Prop} (hk : ∀ w', orSt B (apSt w0 X b c d E kv css F Q xv xs xa w') 4 → K undef w') : Run Tryz.prog (sOp (.store t_SiTerm (.const (.pointer (some ⟨b, d, none⟩))) (.const xa)) ty) w K := by
  obtain ⟨p1, S1, cs, hQ, hl, hI⟩ := h
  obtain ⟨va, vn, vc, hv9⟩ := Inv.rowSlice hI 1 rfl
  refine r_store hI 0 (n := 1) (by rw [hv9]; rfl) (by decide +kernel) rfl (by omega) (by rw [hv9]; simp [Value.cells, Value.oneCell']) fun w_ hI => ?_
  have hcl9 : Value.cells xa = #[xa] := by rw [hv9]; rfl
  have e : putCells c d (Value.cells xa).toList = c.setIfInBounds d xa := by
    rw [hcl9]
    apply Array.toList_inj.1
    simp only [putCells, Array.toList_setIfInBounds]
    have hl : d < c.toList.length := by simpa using hd
    rw [List.set_eq_take_append_cons_drop, if_pos hl]
    simp
  rw [e] at hI
  exact hk _ ⟨p1, S1, cs, hQ, hl, hI⟩
end
/- how much a drawn term weighs, and how far the reader has gone -/
abbrev dW (d : Nat) : Nat := 6 * 3 ^ d
theorem dW_pos (d : Nat) : 6 ≤ dW d := by
  have : 0 < 3 ^ d := Nat.pow_pos (by omega)
  simp only [dW]; omega
theorem dW_succ (d : Nat) : dW (d + 1) = 3 * dW d := by simp only [dW, Nat.pow_succ]; omega
abbrev PostDT (br : Nat) (sl : Value) (p d : Nat) : Value → List Item → Store → Prop := fun v I' S' => ∃ p', p' + 2 ≤ p + dW d ∧ I' = [rdI br sl p'] ∧ ∃ cs t, v = .agg cs.toArray ∧ RdT S' cs t ∧ wT t + 3 ≤ dW d
end Go.Proofs.YtmnnpgdeecnfpaaGreat

/- spec.l1Draw, l1Some: a drawn term is readable and light. -/
namespace Go.Proofs.YtmnnpgdeecnfpaaGreat
open Go Go.RowKit
theorem int_mem {l : List Int} {n a b : Int} (hm : n ∈ l) (h : (l.all fun n => decide (a ≤ n) && decide (n ≤ b)) = true) : a ≤ n ∧ n ≤ b := by
  rw [List.all_eq_true] at h
  have := h n hm
  rw [Bool.and_eq_true, decide_eq_true_eq, decide_eq_true_eq] at this
  exact this
theorem str_mem {l : List ByteArray} {s : ByteArray} {m : Nat} (hm : s ∈ l) (h : (l.all fun s => decide (s.size ≤ m)) = true) : s.size ≤ m := by
  rw [List.all_eq_true] at h
  have := h s hm
  rwa [decide_eq_true_eq] at this
theorem or_blk {Q B : Prop} {R : Nat → Prop} (h1 : Q → B) (h2 : ∀ n, n < 3 → R n → B) : ∀ {n : Nat}, orSt Q R n → n < 4 → B
  | 0, h, _ => h1 h
  | n + 1, h, hn => h2 n (by omega) h
theorem wL_append : ∀ l m : List T, wL (l ++ m) = wL l + wL m
  | [], m => by simp [wL]
  | t :: l, m => by simp only [List.cons_append, wL, wL_append l m]; omega
theorem rdT_leaf {S : Store} {k n : Int} (hk : inI k) (hn : inI n) : RdT S [.int .i64 k, .int .i64 n, .string ⟨#[]⟩, .slice none 0 0] (.mk k n emptyB []) :=
  RdT.iff.2 ⟨_, rfl, hk, hn, Nat.zero_le _, rd_none S⟩
section
variable {w0 w : World} {X : List Nat} {L : List Item} {S : Store} {K : Value → World → Prop} {P : Program}
attribute [local irreducible] Run CondV GuardV LoadV
theorem Run.callL {f : FuncId} {fn : Func} {args : List Value} {I : List Item} {Post : Value → List Item → Store → Prop}
    (hf : P.funcs[f]? = some fn) (hn : (fn.name == "runtime.NumGoroutine" || fn.body.isNone) = false) (h : Inv w0 X L S w) (hc : Tri P f args I S Post) (hL : L = L.dropLast ++ I)
    (hk : ∀ v I' S' w', Post v I' S' → Ext w0.heap.size X S S' → Inv w0 X (L.dropLast ++ I') S' w' → K v w') : Run P (sCall (.func (.func f) #[] #[]) args) w K :=
  Run.callE (A := L.dropLast) hf hn (hL ▸ h) hc hk
theorem r_sub1 {T : TypeId} {cx cy : Bool} {d : Nat} (hd : d ≤ 1000000) (hk : K (.int .i64 (d : Int)) w) : Run P (sBin .sub T cx cy (.int .i64 ((d + 1 : Nat) : Int)) (.int .i64 1)) w K := by
  refine r_sub (by omega) ?_
  rw [show ((d + 1 : Nat) : Int) - 1 = d by omega]
  exact hk
theorem ap0_mk {B : Prop} {b d : Nat} {c : Array Value} {E : TypeId} {kv xs xa : Value} {css : List (List Value)} {F : Nat → List Item} {Q : List Value → Nat → Store → Prop} {p1 : Nat} {S1 : Store} {cs : List Value} {t : T}
    (hQ : Q cs p1 S1) (hr : RdT S1 cs t) (hI : Inv w0 X (.blk b (.cells c E) :: rowG kv t_iTerm 4 css :: F p1) S1 w) : orSt B (apSt w0 X b c d E kv css F Q (.agg cs.toArray) xs xa w) 1 :=
  ⟨p1, S1, cs, hQ, ⟨hr.length, hr.one⟩, rfl, hI⟩
end
section
variable {br : Nat} {sl : Value} {ys : List Nat}
attribute [local irreducible] Run CondV GuardV LoadV
abbrev DrawOk (br : Nat) (sl : Value) (ys : List Nat) (d : Nat) : Prop := ∀ (p : Nat) (S : Store), RdSl S 1 RdU8 sl ys → p + 3 * dW d ≤ 1000000000 → Tri Tryz.prog n_s_l1Draw [rdP br, .int .i64 (d : Int)] [rdI br sl p] S (PostDT br sl p d)
theorem l1Draw_of {d : Nat} (hd4 : d ≤ 4) (ih : ∀ d', d' + 1 = d → DrawOk br sl ys d') : DrawOk br sl ys d := by
  intro p S hrd hp w hI
  have hW := dW_pos d
  refine calls_s_l1Draw ?_
  unfold sh_s_l1Draw
  refine r_alloc hI zo_iTerm fun b4 w' hI => ?_
  have hI : Inv w [br] [.blk b4 (.cells #[.int .i64 0, .int .i64 0, .string ⟨#[]⟩, .slice none 0 0] t_iTerm), rdI br sl p] S w' := hI.last 0 rfl
  refine ⟨fun v w' => ∃ (c : Bool) (p1 : Nat), v = .bool c ∧ p1 ≤ p + 1 ∧ (c = false → 2 ≤ d) ∧ Inv w [br] [.blk b4 (.cells #[.int .i64 0, .int .i64 0, .string ⟨#[]⟩, .slice none 0 0] t_iTerm), rdI br sl p1] S w', ?_, ?_⟩
  · refine r_lss ?_
    by_cases hd : (d : Int) < 2
    · rw [decide_eq_true hd]
      repeat (first | refine guard_true ?_ | refine guard_ne (by decide) ?_ | refine guard_undef ?_ | refine r_pickT ?_ | refine r_pickF ?_)
      exact ⟨true, p, rfl, by omega, (fun h => by cases h), hI⟩
    · rw [decide_eq_false hd]
      repeat (first | refine guard_true ?_ | refine guard_ne (by decide) ?_ | refine guard_undef ?_ | refine r_pickT ?_ | refine r_pickF ?_)
      refine Run.callL fn_s_l18Rd_pick nm_s_l18Rd_pick hI (pick_calls (n := 4) hrd (by omega) (by omega)) rfl fun v' I' S' w' => ?_
      rintro ⟨rfl, rfl, k, hk, rfl⟩ _ hI
      refine r_eql ?_
      repeat (first | refine guard_true ?_ | refine guard_ne (by decide) ?_ | refine guard_undef ?_ | refine r_pickT ?_ | refine r_pickF ?_)
      exact ⟨_, p + 1, rfl, by omega, fun _ => by omega, hI⟩
  intro t13 _ _ _ _ _ _ w'
  rintro ⟨c, p1, rfl, hp1, hcd, hI⟩
  refine condV (fun _ => ?_) (fun hc => ?_)
  · refine Run.callL fn_s_l18Rd_pick nm_s_l18Rd_pick hI (pick_calls (n := 4) hrd (by omega) (by omega)) rfl fun v' I' S' w' => ?_
    rintro ⟨rfl, rfl, k, hk, rfl⟩ _ hI
    have hI : Inv w [br] [.blk b4 (.cells #[.int .i64 0, .int .i64 0, .string ⟨#[]⟩, .slice none 0 0] t_iTerm), rdI br sl (p1 + 1)] S' w' := hI
    refine r_eql ?_
    refine condP (fun _ => ?_) (fun _ => ?_)
    · refine Run.callL fn_s_l18Rd_pick nm_s_l18Rd_pick hI (pick_calls (n := 4) hrd (by omega) (by omega)) rfl fun v' I' S1 w' => ?_
      rintro ⟨rfl, rfl, k, hk, rfl⟩ _ hI
      refine Run.callPure fn_s_l1Var nm_s_l1Var hI (s_l1Var_calls k S1) fun w' hI => ?_
      refine r_storeW hI 0 rfl ag_iTerm rfl rfl (by simp [Value.oneCell']) fun w' hI => ?_
      refine loadV_W hI 0 ag_iTerm rfl rfl ?_
      exact ⟨_, _, S1, rfl, hI.pick [false, true], Ext.refl _ _ _, p1 + 2, by omega, rfl, _, _, rfl, rdT_leaf (by simp [inI]) (by simp only [inI]; omega), by have e : emptyB.size = 0 := rfl; simp only [wT, wL, List.length_nil, e]; omega⟩
    refine r_eql ?_
    refine condP (fun _ => ?_) (fun _ => ?_)
    · refine r_ints hI (by kernel_rfl) rfl (by omega) fun v S1 w' hE1 hv hI => ?_
      refine Run.callL fn_s_l18Rd_num nm_s_l18Rd_num hI (num_calls (p := p1 + 1) (hrd.monoU hE1.1) hv (by decide) (by omega)) rfl fun v' I' S2 w' => ?_
      rintro ⟨rfl, rfl, n, hn, rfl⟩ _ hI
      have hn := int_mem (a := -1000) (b := 1000) hn (by decide)
      refine Run.callPure fn_s_l1Int nm_s_l1Int hI (s_l1Int_calls n S2) fun w' hI => ?_
      refine r_storeW hI 0 rfl ag_iTerm rfl rfl (by simp [Value.oneCell']) fun w' hI => ?_
      refine loadV_W hI 0 ag_iTerm rfl rfl ?_
      exact ⟨_, _, S2, rfl, hI.pick [false, true], hE1, p1 + 2, by omega, rfl, _, _, rfl, rdT_leaf (by simp [inI]) (by simp only [inI]; omega), by have e : emptyB.size = 0 := rfl; simp only [wT, wL, List.length_nil, e]; omega⟩
    · refine r_strs hI (by kernel_rfl) rfl (by omega) fun v S1 w' hE1 hv hI => ?_
      refine Run.callL fn_s_l18Rd_of nm_s_l18Rd_of hI (of_calls (p := p1 + 1) (hrd.monoU hE1.1) hv (by decide) (by omega)) rfl fun v' I' S2 w' => ?_
      rintro ⟨rfl, rfl, s, hs, rfl⟩ _ hI
      have hs := str_mem (m := 3) hs (by decide)
      refine Run.call0E fn_s_l1Struct nm_s_l1Struct hI (l1Struct_pub s (by simp only [maxLen]; omega) (rd_none S2) (by simp)) fun v' I' S3 w' => ?_
      rintro ⟨rfl, cs, rfl, hcs⟩ hE3 hI
      refine r_storeW hI 0 rfl ag_iTerm (by simpa using hcs.length) rfl (by simpa using hcs.one) fun w' hI => ?_
      refine loadV_W hI 0 ag_iTerm rfl (by simpa using hcs.length) ?_
      exact ⟨_, _, S3, rfl, hI.pick [false, true], hE1.trans hE3, p1 + 2, by omega, rfl, _, _, rfl, hcs, by simp only [wT, wL, List.length_nil]; omega⟩
  obtain ⟨d', rfl⟩ : ∃ d', d = d' + 1 := ⟨d - 1, by have := hcd hc; omega⟩
  have ih := ih d' rfl
  have hD := dW_pos d'
  have hDs := dW_succ d'
  have h3 : dW d' ≤ 486 := by
    have : 3 ^ d' ≤ 3 ^ 4 := Nat.pow_le_pow_right (by omega) (by omega)
    simp only [dW]; omega
  refine Run.callL fn_s_l18Rd_pick nm_s_l18Rd_pick hI (pick_calls (n := 3) hrd (by omega) (by omega)) rfl fun v' I' S w' => ?_
  rintro ⟨rfl, rfl, k, hk, rfl⟩ _ hI
  refine r_eql ?_
  refine condP (fun _ => ?_) (fun _ => ?_)
  · refine r_sub1 (by omega) ?_
    refine Run.callL fn_s_l1Draw nm_s_l1Draw hI (ih (p1 + 1) S hrd (by omega)) rfl fun v' I' S1 w' => ?_
    rintro ⟨p2, hp2, rfl, cs1, t1, rfl, hc1, hw1⟩ hE1 hI
    refine r_sub1 (by omega) ?_
    refine Run.callL fn_s_l1Draw nm_s_l1Draw hI (ih p2 S1 (hrd.monoU hE1.1) (by omega)) rfl fun v' I' S2 w' => ?_
    rintro ⟨p3, hp3, rfl, cs2, t2, rfl, hc2, hw2⟩ hE2 hI
    have hc1 := RdT.mono hE2.1 hc1
    obtain ⟨kv1, rfl, _, _, _, a1, q1, rfl, _⟩ := RdT.iff.1 hc1
    obtain ⟨kv2, rfl, _, _, _, a2, q2, rfl, _⟩ := RdT.iff.1 hc2
    refine r_made (v := fun b => .slice (some ⟨b, 0, none⟩) 2 2) (o := .cells #[.int .i64 t1.kind, .int .i64 t1.n, .string t1.name, .slice a1 t1.kids.length q1, .int .i64 t2.kind, .int .i64 t2.n, .string t2.name, .slice a2 t2.kids.length q2] t_iTerm) hI (by kernel_rfl) fun b w' hI => ?_
    have hI : Inv w [br] ([.blk b4 (.cells #[.int .i64 0, .int .i64 0, .string ⟨#[]⟩, .slice none 0 0] t_iTerm), rdI br sl p3] ++ [_]) S2 w' := hI
    obtain ⟨S3, hI, hE3, hS⟩ := hI.pub1
    refine Run.call0E fn_s_l1Struct nm_s_l1Struct hI (l1Struct_pub ⟨#[46]⟩ (by decide) (rd_two hS (hc1.mono hE3.1) (hc2.mono hE3.1)) (by simp)) fun v' I' S4 w' => ?_
    rintro ⟨rfl, cs, rfl, hcs⟩ hE4 hI
    refine r_storeW hI 0 rfl ag_iTerm (by simpa using hcs.length) rfl (by simpa using hcs.one) fun w' hI => ?_
    refine loadV_W hI 0 ag_iTerm rfl (by simpa using hcs.length) ?_
    refine ⟨_, _, S4, rfl, hI.pick [false, true], (hE1.trans hE2).trans (hE3.trans hE4), p3, by omega, rfl, _, _, rfl, hcs, ?_⟩
    have e : (ByteArray.mk #[46]).size = 1 := rfl
    simp only [wT, wL, List.length_cons, List.length_nil, e]
    omega
  · refine r_strs hI (by kernel_rfl) rfl (by omega) fun v S1 w' hE1 hv hI => ?_
    refine Run.callL fn_s_l18Rd_of nm_s_l18Rd_of hI (of_calls (p := p1 + 1) (hrd.monoU hE1.1) hv (by decide) (by omega)) rfl fun v' I' S2 w' => ?_
    rintro ⟨rfl, rfl, s, hs, rfl⟩ _ hI
    have hs := str_mem (m := 3) hs (by decide)
    refine Run.call0E fn_s_l1Struct nm_s_l1Struct hI (l1Struct_row s (rd_none S2) (by simp)) fun v' I' S3 w' => ?_
    rintro ⟨rfl, kv0, css0, rfl, rfl, hR0⟩ hE3 hI
    refine r_alloc hI zo_iTerm fun b5 w' hI => ?_
    obtain ⟨a0, n0, q0, rfl⟩ := hI.rowSlice 2 rfl
    refine r_storeW hI 3 rfl ag_iTerm rfl rfl (by simp [Value.oneCell']) fun w' hI => ?_
    obtain ⟨B4, hB4⟩ : ∃ B4, B4 = Item.blk b4 (.cells #[.int .i64 0, .int .i64 0, .string ⟨#[]⟩, .slice none 0 0] t_iTerm) := ⟨_, rfl⟩
    have hI : Inv w [br] [.blk b5 (.cells #[.int .i64 3, .int .i64 0, .string s, .slice a0 n0 q0] t_iTerm), rowG (.slice a0 n0 q0) t_iTerm 4 css0, B4, rdI br sl (p1 + 2)] S3 w' := by
      rw [hB4]
      exact ((hI.last 2 rfl).last 0 rfl).last 0 rfl
    refine r_ints hI (by kernel_rfl) rfl (by omega) fun v S4 w' hE4 hv hI => ?_
    refine Run.callL fn_s_l18Rd_num nm_s_l18Rd_num hI (num_calls (p := p1 + 2) (hrd.monoU ((hE1.trans hE3).trans hE4).1) hv (by decide) (by omega)) rfl fun v' I' S5 w' => ?_
    rintro ⟨rfl, rfl, n, hn, rfl⟩ _ hI
    have hn := int_mem (a := 1) (b := 3) hn (by decide)
    have hE5 : Ext w.heap.size [br] S S5 := (hE1.trans hE3).trans hE4
    refine ⟨fun t w' => ∃ (j p2 : Nat) (S6 : Store) (kv : Value) (css : List (List Value)) (ts : List T), t = .int .i64 (j : Int) ∧ ts.length + j ≤ 3 ∧ Rows 4 (RdT S6) css ts ∧ wL ts + 3 * ts.length ≤ ts.length * dW d' ∧ p2 + 2 * ts.length ≤ p1 + 3 + ts.length * dW d' ∧ Ext w.heap.size [br] S S6 ∧
      Inv w [br] [.blk b5 (.cells #[.int .i64 3, .int .i64 0, .string s, kv] t_iTerm), rowG kv t_iTerm 4 css, B4, rdI br sl p2] S6 w', fun t _ => (intOf t).toNat,
      ⟨n.toNat, p1 + 3, S5, _, css0, [], by rw [Int.toNat_of_nonneg (by omega)], by simp; omega, hR0.monoR fun _ _ h => RdT.mono hE4.1 h, by simp [wL], by simp, hE5, hI⟩, ?_⟩
    intro t6 _ _ t63 t62 t61 t60 t59 t58 t57 t56 t55 _ _ w'
    rintro ⟨j, p2, S6, kv, css, ts, rfl, hj, hR, hwts, hp2, hE6, hI⟩
    have hcl := hR.hc
    have hm : ts.length * dW d' ≤ 3 * dW d' := Nat.mul_le_mul_right _ (by omega)
    refine r_gtr ?_
    refine condP (fun hj0 => ?_) (fun hj0 => ?_)
    · obtain ⟨j', rfl⟩ : ∃ j', j = j' + 1 := ⟨j - 1, by omega⟩
      refine ⟨fun D x63 x62 x61 x60 x59 x58 x57 x56 x55 w_ => (D 0 = true → x55 = .pointer (some ⟨b5, 3, none⟩)) ∧ (D 1 = true → x56 = kv) ∧ (D 2 = true → x57 = rdP br) ∧ (D 3 = true → x58 = .int .i64 ((d' + 1 : Nat) : Int)) ∧ (D 4 = true → x59 = .int .i64 (d' : Int)) ∧ (D 5 = true → True) ∧ (D 6 = true → True) ∧ (D 7 = true → True) ∧ (D 8 = true → x63 = .pointer (some ⟨b5, 3, none⟩)) ∧ (D 9 = true → True) ∧ ∃ n_ : Nat, n_ ≤ 4 ∧ D 5 = decide (1 ≤ n_) ∧ D 6 = decide (2 ≤ n_) ∧ D 7 = decide (3 ≤ n_) ∧ D 9 = decide (4 ≤ n_) ∧ (D 9 = true → D 1 = true) ∧ (orSt (Inv w [br] [.blk b5 (.cells #[.int .i64 3, .int .i64 0, .string s, kv] t_iTerm), rowG kv t_iTerm 4 css, B4, rdI br sl p2] S6 w_) (apSt w [br] b5 #[.int .i64 3, .int .i64 0, .string s, kv] 3 t_iTerm kv css (fun p => [B4, rdI br sl p]) (fun cs p' S' => ∃ t, RdT S' cs t ∧ wT t + 3 ≤ dW d' ∧ p' + 2 ≤ p2 + dW d' ∧ Ext w.heap.size [br] S6 S') x60 x61 x62 w_) n_), ⟨fun h => Bool.noConfusion h, fun h => Bool.noConfusion h, fun h => Bool.noConfusion h, fun h => Bool.noConfusion h, fun h => Bool.noConfusion h, fun h => Bool.noConfusion h, fun h => Bool.noConfusion h, fun h => Bool.noConfusion h, fun h => Bool.noConfusion h, fun h => Bool.noConfusion h, ⟨0, Nat.zero_le _, rfl, rfl, rfl, rfl, (fun h => Bool.noConfusion h), hI.draw⟩⟩, ⟨?_, ?_, ?_, ?_, ?_, ?_, ?_, ?_, ?_, ?_, trivial⟩, ?_⟩
      · intro D hD_  x63 x62 x61 x60 x59 x58 x57 x56 x55 w_
        rintro ⟨h0_, h1_, h2_, h3_, h4_, h5_, h6_, h7_, h8_, h9_, ⟨n_, ln_, e1_, e2_, e3_, e4_, kp_, hS⟩⟩
        refine r_field fo_iTerm_3 ?_
        exact ⟨fun _ => rfl, h1_, h2_, h3_, h4_, h5_, h6_, h7_, h8_, h9_, ⟨n_, ln_, e1_, e2_, e3_, e4_, kp_, hS⟩⟩
      · intro D hD_ d0_0 x63 x62 x61 x60 x59 x58 x57 x56 x55 w_
        rintro ⟨h0_, h1_, h2_, h3_, h4_, h5_, h6_, h7_, h8_, h9_, ⟨n_, ln_, e1_, e2_, e3_, e4_, kp_, hS⟩⟩
        obtain rfl := h0_ d0_0
        have ln2_ := stgL e4_ kp_ hD_
        refine r_load sc_SiTerm ((or_blk (fun h => h.cellL (i := 0) rfl) (fun n hn h => ap_blk h hn) hS ln2_).trans rfl) ?_
        exact ⟨h0_, fun _ => rfl, h2_, h3_, h4_, h5_, h6_, h7_, h8_, h9_, ⟨n_, ln_, e1_, e2_, e3_, e4_, (fun _ => rfl), hS⟩⟩
      · intro D hD_  x63 x62 x61 x60 x59 x58 x57 x56 x55 w_
        rintro ⟨h0_, h1_, h2_, h3_, h4_, h5_, h6_, h7_, h8_, h9_, ⟨n_, ln_, e1_, e2_, e3_, e4_, kp_, hS⟩⟩
        exact ⟨h0_, h1_, fun _ => rfl, h3_, h4_, h5_, h6_, h7_, h8_, h9_, ⟨n_, ln_, e1_, e2_, e3_, e4_, kp_, hS⟩⟩
      · intro D hD_  x63 x62 x61 x60 x59 x58 x57 x56 x55 w_
        rintro ⟨h0_, h1_, h2_, h3_, h4_, h5_, h6_, h7_, h8_, h9_, ⟨n_, ln_, e1_, e2_, e3_, e4_, kp_, hS⟩⟩
        exact ⟨h0_, h1_, h2_, fun _ => rfl, h4_, h5_, h6_, h7_, h8_, h9_, ⟨n_, ln_, e1_, e2_, e3_, e4_, kp_, hS⟩⟩
      · intro D hD_ d3_0 x63 x62 x61 x60 x59 x58 x57 x56 x55 w_
        rintro ⟨h0_, h1_, h2_, h3_, h4_, h5_, h6_, h7_, h8_, h9_, ⟨n_, ln_, e1_, e2_, e3_, e4_, kp_, hS⟩⟩
        obtain rfl := h3_ d3_0
        refine r_sub1 (by omega) ?_
        exact ⟨h0_, h1_, h2_, h3_, fun _ => rfl, h5_, h6_, h7_, h8_, h9_, ⟨n_, ln_, e1_, e2_, e3_, e4_, kp_, hS⟩⟩
      · intro D hD_ d2_0 d4_1 x63 x62 x61 x60 x59 x58 x57 x56 x55 w_
        rintro ⟨h0_, h1_, h2_, h3_, h4_, h5_, h6_, h7_, h8_, h9_, ⟨n_, ln_, e1_, e2_, e3_, e4_, kp_, hS⟩⟩
        obtain rfl := h2_ d2_0
        obtain rfl := h4_ d4_1
        obtain rfl : n_ = 0 := stg0 e1_ hD_
        refine Run.callL fn_s_l1Draw nm_s_l1Draw (L := [.blk b5 _, rowG _ t_iTerm 4 css, B4, rdI br sl p2]) hS (ih p2 S6 (hrd.monoU hE6.1) (by omega)) rfl fun v' I' S7 w_ => ?_
        rintro ⟨p3, hp3, rfl, cs, t, rfl, hcs, hwt⟩ hE7 hI
        exact ⟨h0_, h1_, h2_, h3_, h4_, fun _ => by first | assumption | trivial, h6_, h7_, h8_, h9_, ⟨1, by decide, rfl, (by first | exact e2_ | rfl), (by first | exact e3_ | rfl), (by first | exact e4_ | rfl), kp_, ap0_mk ⟨t, hcs, hwt, hp3, hE7⟩ hcs hI⟩⟩
      · intro D hD_ d5_0 x63 x62 x61 x60 x59 x58 x57 x56 x55 w_
        rintro ⟨h0_, h1_, h2_, h3_, h4_, h5_, h6_, h7_, h8_, h9_, ⟨n_, ln_, e1_, e2_, e3_, e4_, kp_, hS⟩⟩
        have g5_ := h5_ d5_0
        obtain rfl : n_ = 1 := stgS e1_ d5_0 e2_ hD_
        refine ap1 hS fun u w_ hS => ?_
        exact ⟨h0_, h1_, h2_, h3_, h4_, h5_, fun _ => by first | assumption | trivial, h7_, h8_, h9_, ⟨2, by decide, (by first | exact e1_ | rfl), rfl, (by first | exact e3_ | rfl), (by first | exact e4_ | rfl), kp_, hS⟩⟩
      · intro D hD_ d1_0 d6_1 d5_2 x63 x62 x61 x60 x59 x58 x57 x56 x55 w_
        rintro ⟨h0_, h1_, h2_, h3_, h4_, h5_, h6_, h7_, h8_, h9_, ⟨n_, ln_, e1_, e2_, e3_, e4_, kp_, hS⟩⟩
        obtain rfl := h1_ d1_0
        have g6_ := h6_ d6_1
        obtain rfl : n_ = 2 := stgS e2_ d6_1 e3_ hD_
        refine ap2 hS (by omega) fun u w_ hS => ?_
        exact ⟨h0_, h1_, h2_, h3_, h4_, h5_, h6_, fun _ => by first | assumption | trivial, h8_, h9_, ⟨3, by decide, (by first | exact e1_ | rfl), (by first | exact e2_ | rfl), rfl, (by first | exact e4_ | rfl), kp_, hS⟩⟩
      · intro D hD_ d0_0 d1_1 d2_2 d3_3 d4_4 d5_5 d6_6 d7_7 x63 x62 x61 x60 x59 x58 x57 x56 x55 w_
        rintro ⟨h0_, h1_, h2_, h3_, h4_, h5_, h6_, h7_, h8_, h9_, ⟨n_, ln_, e1_, e2_, e3_, e4_, kp_, hS⟩⟩
        refine r_field fo_iTerm_3 ?_
        exact ⟨h0_, h1_, h2_, h3_, h4_, h5_, h6_, h7_, fun _ => rfl, h9_, ⟨n_, ln_, e1_, e2_, e3_, e4_, kp_, hS⟩⟩
      · intro D hD_ d8_0 d7_1 d7_2 d0_3 d1_4 d2_5 d3_6 d4_7 d5_8 d6_9 d7_10 x63 x62 x61 x60 x59 x58 x57 x56 x55 w_
        rintro ⟨h0_, h1_, h2_, h3_, h4_, h5_, h6_, h7_, h8_, h9_, ⟨n_, ln_, e1_, e2_, e3_, e4_, kp_, hS⟩⟩
        obtain rfl := h8_ d8_0
        have g7_ := h7_ d7_1
        obtain rfl : n_ = 3 := stgS e3_ d7_1 e4_ hD_
        refine ap3 hS (by simp) fun w_ hS => ?_
        exact ⟨h0_, h1_, h2_, h3_, h4_, h5_, h6_, h7_, h8_, fun _ => trivial, ⟨4, by decide, (by first | exact e1_ | rfl), (by first | exact e2_ | rfl), (by first | exact e3_ | rfl), rfl, (fun _ => d1_4), hS⟩⟩
      intro D d9_ d8_ d7_ d6_ d5_ d4_ d3_ d2_ d1_ d0_ x63 x62 x61 x60 x59 x58 x57 x56 x55 w_
      rintro ⟨h0_, h1_, h2_, h3_, h4_, h5_, h6_, h7_, h8_, h9_, ⟨n_, ln_, e1_, e2_, e3_, e4_, kp_, hS⟩⟩
      obtain rfl : n_ = 4 := stgE ln_ e4_ d9_
      clear e1_ e2_ e3_ e4_
      obtain ⟨p3, S7, cs, ⟨t, hcs, hwt, hp3, hE7⟩, hl, hI⟩ := hS
      refine r_sub1 (by omega) ?_
      refine ⟨⟨j', p3, S7, _, _, ts ++ [t], rfl, by rw [List.length_append]; simp only [List.length_cons, List.length_nil]; omega, (hR.monoR fun _ _ h => RdT.mono hE7.1 h).snoc hcs hl.1, ?_, ?_, hE6.trans hE7, hI⟩, by simp only [intOf, Int.toNat_natCast]; omega⟩
      · rw [wL_append, List.length_append, List.length_cons, List.length_nil, Nat.add_mul]
        simp only [wL]
        omega
      · rw [List.length_append, List.length_cons, List.length_nil, Nat.add_mul]
        omega
    · have hI : Inv w [br] ([.blk b5 (.cells #[.int .i64 3, .int .i64 0, .string s, kv] t_iTerm), B4, rdI br sl p2] ++ [rowG kv t_iTerm 4 css]) S6 w' := hI.last 1 rfl
      refine r_loadW hI 0 ag_iTerm rfl rfl ?_
      obtain ⟨S7, hE7, hrdr, hI⟩ := Inv.lendExt hI
      have hrs := RowRd.rows (hR.monoR fun _ _ h => RdT.mono hE7.1 h) hrdr
      obtain ⟨a, q, rfl, _⟩ := id hrs
      subst hB4
      refine r_storeW hI 1 rfl ag_iTerm rfl rfl (by simp [Value.oneCell']) fun w' hI => ?_
      refine loadV_W hI 1 ag_iTerm rfl rfl ?_
      refine ⟨_, _, S7, rfl, hI.pick [false, false, true], hE6.trans hE7, p2, ?_, rfl, [.int .i64 3, .int .i64 0, .string s, _], .mk 3 0 s ts, rfl, RdT.iff.2 ⟨_, rfl, by simp [inI, T.kind], by simp [inI, T.n], by simp only [T.name, maxLen]; omega, hrs⟩, ?_⟩
      · have : ts.length = 0 ∨ ts.length = 1 ∨ ts.length = 2 ∨ ts.length = 3 := by omega
        rcases this with h | h | h | h <;> rw [h] at hp2 hwts <;> omega
      · simp only [wT]
        have : ts.length = 0 ∨ ts.length = 1 ∨ ts.length = 2 ∨ ts.length = 3 := by omega
        rcases this with h | h | h | h <;> rw [h] at hp2 hwts ⊢ <;> omega
theorem l1Draw_calls : ∀ d : Nat, d ≤ 4 → DrawOk br sl ys d
  | 0, h => l1Draw_of h fun d' e => by omega
  | d + 1, h => l1Draw_of h fun d' e => by
    obtain rfl : d' = d := by omega
    exact l1Draw_calls _ (by omega)
abbrev PostDN (br : Nat) (sl : Value) (p k m : Nat) : Value → List Item → Store → Prop := fun v I' S' => ∃ p', p' ≤ p + k ∧ I' = [rdI br sl p'] ∧ ∃ cs t, v = .agg cs.toArray ∧ RdT S' cs t ∧ wT t ≤ m
theorem l1Some_calls {p : Nat} {S : Store} (hrd : RdSl S 1 RdU8 sl ys) (hp : p ≤ 100000000) : Tri Tryz.prog n_s_l1Some [rdP br] [rdI br sl p] S (PostDN br sl p 500 500) := by
  intro w hI
  refine calls_s_l1Some ?_
  unfold sh_s_l1Some
  refine r_alloc hI zo_iTerm fun b2 w' hI => ?_
  have hI : Inv w [br] [.blk b2 (.cells #[.int .i64 0, .int .i64 0, .string ⟨#[]⟩, .slice none 0 0] t_iTerm), rdI br sl p] S w' := hI.last 0 rfl
  refine r_ints hI (by kernel_rfl) rfl (by omega) fun v S1 w' hE1 hv hI => ?_
  refine Run.callL fn_s_l18Rd_num nm_s_l18Rd_num hI (num_calls (p := p) (hrd.monoU hE1.1) hv (by decide) (by omega)) rfl fun v' I' S2 w' => ?_
  rintro ⟨rfl, rfl, n, hn, rfl⟩ _ hI
  have hn := int_mem (a := 1) (b := 4) hn (by decide)
  obtain ⟨m, rfl⟩ : ∃ m : Nat, n = m := ⟨n.toNat, by rw [Int.toNat_of_nonneg (by omega)]⟩
  have h3 : dW m ≤ 486 := by
    have : 3 ^ m ≤ 3 ^ 4 := Nat.pow_le_pow_right (by omega) (by omega)
    simp only [dW]; omega
  refine Run.callL fn_s_l1Draw nm_s_l1Draw hI (l1Draw_calls m (by omega) (p + 1) S2 (hrd.monoU hE1.1) (by omega)) rfl fun v' I' S3 w' => ?_
  rintro ⟨p1, hp1, rfl, cs, t, rfl, hcs, hw⟩ hE3 hI
  refine r_storeW hI 0 rfl ag_iTerm (by simpa using hcs.length) rfl (by simpa using hcs.one) fun w' hI => ?_
  refine loadV_W hI 0 ag_iTerm rfl (by simpa using hcs.length) ?_
  exact ⟨_, _, S3, rfl, hI.pick [false, true], hE1.trans hE3, p1, by omega, rfl, cs, t, rfl, hcs, by omega⟩
end
end Go.Proofs.YtmnnpgdeecnfpaaGreat

/- spec.l1Mutate. -/
namespace Go.Proofs.YtmnnpgdeecnfpaaGreat
open Go Go.RowKit
def lenAt (w : World) (b o : Nat) : Nat := match w.cell? ⟨b, o, none⟩ with
  | some (.slice _ n _) => n
  | _ => 0
theorem or_blk4 {Q Q2 B : Prop} {R : Nat → Prop} (h1 : Q → B) (h3 : Q2 → B) (h2 : ∀ n, n < 3 → R n → B) : ∀ {n : Nat}, orSt Q (orSt Q2 R) n → n < 5 → B
  | 0, h, _ => h1 h
  | 1, h, _ => h3 h
  | n + 2, h, hn => h2 n (by omega) h
theorem or_up {Q : Prop} {R : Nat → Prop} {n : Nat} (h : R n) : orSt Q R (n + 1) := h
theorem or_in {Q : Prop} {R : Nat → Prop} {n : Nat} (h : orSt Q R (n + 1)) : R n := h
section
variable {w0 w : World} {X : List Nat} {L A : List Item} {S : Store} {K : Value → World → Prop} {P : Program}
attribute [local irreducible] Run CondV GuardV LoadV
theorem lenAt_eq (h : Inv w0 X L S w) {i b o : Nat} {c : Array Value} {E : TypeId} {a : Option Addr} {n m : Nat} (hi : L[i]? = some (.blk b (.cells c E))) (hc : c[o]? = some (.slice a n m)) : lenAt w b o = n := by
  rw [lenAt, h.cellL hi, hc]
theorem pub_kids {b : Nat} {k n : Int} {s : ByteArray} {kv : Value} {css : List (List Value)} {ks : List T} {o : Obj}
    (hI : Inv w0 X (.blk b o :: rowG kv t_iTerm 4 css :: A) S w) (hR : Rows 4 (RdT S) css ks) (hk : inI k) (hn : inI n) (hs : s.size ≤ maxLen) :
    ∃ S', Ext w0.heap.size X S S' ∧ Inv w0 X (.blk b o :: A) S' w ∧ RdT S' [.int .i64 k, .int .i64 n, .string s, kv] (.mk k n s ks) ∧ RdSl S' 4 (RdT S') kv ks := by
  have hI : Inv w0 X ((.blk b o :: A) ++ [rowG kv t_iTerm 4 css]) S w := hI.last 1 rfl
  obtain ⟨S', hE, hrd, hI⟩ := Inv.lendExt hI
  have hrs := RowRd.rows (hR.monoR fun _ _ h => RdT.mono hE.1 h) hrd
  exact ⟨S', hE, hI, RdT.iff.2 ⟨_, rfl, hk, hn, hs, hrs⟩, hrs⟩
end
section
variable {br : Nat} {sl : Value} {ys : List Nat}
attribute [local irreducible] Run CondV GuardV LoadV
theorem l1Mutate_calls {p : Nat} {S : Store} {cs : List Value} {t : T} (hrd : RdSl S 1 RdU8 sl ys) (h : RdT S cs t) (hw : wT t ≤ 100000) (hp : p ≤ 100000000) :
    Tri Tryz.prog n_s_l1Mutate [rdP br, .agg cs.toArray] [rdI br sl p] S (PostDN br sl p 2 (wT t + 100)) := by
  intro w hI
  have h0 := h
  obtain ⟨kv0, rfl, hk, hn, hs, hks⟩ := RdT.iff.1 h
  refine calls_s_l1Mutate ?_
  unfold sh_s_l1Mutate
  refine r_box hI fun b3 w' hI => ?_
  refine r_alloc hI zo_iTerm fun b4 w' hI => ?_
  refine r_loadW hI 1 ag_iTerm rfl rfl ?_
  refine Run.call0E fn_s_l1Copy nm_s_l1Copy hI (l1CopyTop t S _ h0 (by omega)) fun v' I' S1 w' => ?_
  rintro ⟨kv, css, rfl, rfl, hR⟩ hE1 hI
  have hE1 : Ext w.heap.size [br] S S1 := hE1
  obtain ⟨a0, n0, q0, rfl⟩ := hI.rowSlice 3 rfl
  refine r_alloc hI zo_iTerm fun b5 w' hI => ?_
  refine r_storeW hI 4 rfl ag_iTerm rfl rfl (by simp [Value.oneCell']) fun w' hI => ?_
  obtain ⟨B4, hB4⟩ : ∃ B4, B4 = Item.blk b4 (.cells #[.int .i64 0, .int .i64 0, .string ⟨#[]⟩, .slice none 0 0] t_iTerm) := ⟨_, rfl⟩
  obtain ⟨k, hk'⟩ : ∃ k, k = t.kind := ⟨_, rfl⟩
  obtain ⟨n, hn'⟩ : ∃ n, n = t.n := ⟨_, rfl⟩
  obtain ⟨s, hs'⟩ : ∃ s, s = t.name := ⟨_, rfl⟩
  have hwt : wT t = s.size + t.kids.length + wL t.kids := by rw [hs']; cases t; rw [wT]; rfl
  rw [← hk', ← hn', ← hs'] at hI
  rw [← hk'] at hk
  rw [← hn'] at hn
  rw [← hs'] at hs
  have hI : Inv w [br] [.blk b5 (.cells #[.int .i64 k, .int .i64 n, .string s, .slice a0 n0 q0] t_iTerm), rowG (.slice a0 n0 q0) t_iTerm 4 css, B4, rdI br sl p] S1 w' := by
    rw [hB4]
    exact (((hI.pick [true, false, true, true, true]).last 2 rfl).last 1 rfl).last 0 rfl
  refine ⟨fun w' => ∃ (p1 : Nat) (S2 : Store) (cs1 : List Value) (t1 : T), p1 ≤ p + 2 ∧ Ext w.heap.size [br] S S2 ∧ RdT S2 cs1 t1 ∧ wT t1 ≤ wT t + 100 ∧ Inv w [br] [.blk b5 (.cells cs1.toArray t_iTerm), B4, rdI br sl p1] S2 w', ?_, ?_⟩
  · have hfin : ∀ {k n : Int} {s1 : ByteArray} {p1 : Nat} {w' : World} {S1 : Store} {css : List (List Value)} {kv : Value} {ks : List T}, Ext w.heap.size [br] S S1 → p1 ≤ p + 2 → inI k → inI n → s1.size ≤ s.size + 7 → Rows 4 (RdT S1) css ks → ks.length ≤ t.kids.length + 5 → wL ks ≤ wL t.kids →
        Inv w [br] [.blk b5 (.cells #[.int .i64 k, .int .i64 n, .string s1, kv] t_iTerm), rowG kv t_iTerm 4 css, B4, rdI br sl p1] S1 w' →
        ∃ (p1 : Nat) (S2 : Store) (cs1 : List Value) (t1 : T), p1 ≤ p + 2 ∧ Ext w.heap.size [br] S S2 ∧ RdT S2 cs1 t1 ∧ wT t1 ≤ wT t + 100 ∧ Inv w [br] [.blk b5 (.cells cs1.toArray t_iTerm), B4, rdI br sl p1] S2 w' := by
      intro k n s1 p1 w' S1 css kv ks hE hp1 hk hn hs1 hR hkl hkw hI
      obtain ⟨S2, hE2, hI, hr, _⟩ := pub_kids (s := s1) hI hR hk hn (by simp only [maxLen]; omega)
      exact ⟨p1, S2, _, _, hp1, hE.trans hE2, hr, by rw [wT, hwt]; omega, hI⟩
    refine Run.callL fn_s_l18Rd_pick nm_s_l18Rd_pick hI (pick_calls (n := 50) (hrd.monoU hE1.1) (by omega) (by omega)) rfl fun v' I' S1 w' => ?_
    rintro ⟨rfl, rfl, kk, hkk, rfl⟩ _ hI
    refine r_eql ?_
    refine condP (fun _ => ?_) (fun _ => ?_)
    · refine r_ints hI (by kernel_rfl) rfl (by omega) fun v S3 w' hE3 hv hI => ?_
      refine Run.callL fn_s_l18Rd_num nm_s_l18Rd_num hI (num_calls (p := p + 1) (hrd.monoU (hE1.trans hE3).1) hv (by decide) (by omega)) rfl fun v' I' S3 w' => ?_
      rintro ⟨rfl, rfl, m, hm, rfl⟩ _ hI
      have hm := int_mem (a := -1000) (b := 1000) hm (by decide)
      refine r_fieldSt hI 0 rfl fo_iTerm_0 sc_int rfl rfl rfl fun w' hI => ?_
      exact hfin (hE1.trans hE3) (Nat.le_refl _) (by simp only [inI]; omega) hn (by omega) (hR.monoR fun _ _ h => RdT.mono hE3.1 h) (by omega) (Nat.le_refl _) hI
    refine r_eql ?_
    refine condP (fun _ => ?_) (fun _ => ?_)
    · refine r_ints hI (by kernel_rfl) rfl (by omega) fun v S3 w' hE3 hv hI => ?_
      refine Run.callL fn_s_l18Rd_num nm_s_l18Rd_num hI (num_calls (p := p + 1) (hrd.monoU (hE1.trans hE3).1) hv (by decide) (by omega)) rfl fun v' I' S3 w' => ?_
      rintro ⟨rfl, rfl, m, hm, rfl⟩ _ hI
      have hm := int_mem (a := -1000) (b := 1000) hm (by decide)
      refine r_fieldSt hI 0 rfl fo_iTerm_1 sc_int rfl rfl rfl fun w' hI => ?_
      exact hfin (hE1.trans hE3) (Nat.le_refl _) hk (by simp only [inI]; omega) (by omega) (hR.monoR fun _ _ h => RdT.mono hE3.1 h) (by omega) (Nat.le_refl _) hI
    refine r_eql ?_
    refine condP (fun _ => ?_) (fun _ => ?_)
    · refine r_strs hI (by kernel_rfl) rfl (by omega) fun v S3 w' hE3 hv hI => ?_
      refine Run.callL fn_s_l18Rd_of nm_s_l18Rd_of hI (of_calls (p := p + 1) (hrd.monoU (hE1.trans hE3).1) hv (by decide) (by omega)) rfl fun v' I' S3 w' => ?_
      rintro ⟨rfl, rfl, m, hm, rfl⟩ _ hI
      have hm := str_mem (m := 7) hm (by decide)
      refine r_fieldSt hI 0 rfl fo_iTerm_2 sc_string rfl rfl rfl fun w' hI => ?_
      exact hfin (hE1.trans hE3) (Nat.le_refl _) hk hn (by omega) (hR.monoR fun _ _ h => RdT.mono hE3.1 h) (by omega) (Nat.le_refl _) hI
    refine r_eql ?_
    refine condP (fun _ => ?_) (fun _ => ?_)
    · refine ⟨fun w' => ∃ (S2 : Store) (kv : Value) (css : List (List Value)) (ks : List T), Ext w.heap.size [br] S S2 ∧ Rows 4 (RdT S2) css ks ∧ ks.length ≤ t.kids.length + 5 ∧ wL ks ≤ wL t.kids ∧
          Inv w [br] [.blk b5 (.cells #[.int .i64 k, .int .i64 n, .string s, kv] t_iTerm), rowG kv t_iTerm 4 css, B4, rdI br sl (p + 1)] S2 w', fun w' => 5 - lenAt w' b5 3, ⟨S1, _, css, t.kids, hE1, hR, by omega, Nat.le_refl _, hI⟩, ?_⟩
      intro t40 t39 t38 t37 t36 t35 _ _ _ _ w'
      rintro ⟨S2, kv, css, ks, hE2, hR, hkl, hkw, hI⟩
      obtain ⟨a1, n1, q1, rfl, hn1⟩ : ∃ a m c, kv = .slice a m c ∧ m = ks.length := by
        obtain ⟨S', _, _, _, hr⟩ := pub_kids hI hR hk hn hs
        obtain ⟨a, q, rfl, _⟩ := hr
        exact ⟨a, _, q, rfl, rfl⟩
      subst hn1
      have hl1 := lenAt_eq hI (i := 0) (o := 3) rfl rfl
      have hcl := hR.hc
      refine r_fieldL hI 0 rfl fo_iTerm_3 sc_SiTerm rfl ?_
      refine r_len sl_SiTerm ?_
      refine r_leq ?_
      refine condP (fun hle => ?_) (fun hle => ?_)
      · have hI := hI
        refine ⟨fun D x40 x39 x38 x37 x36 x35 w_ => (D 0 = true → x35 = .pointer (some ⟨b5, 3, none⟩)) ∧ (D 1 = true → x36 = .slice a1 ks.length q1) ∧ (D 2 = true → True) ∧ (D 3 = true → True) ∧ (D 4 = true → True) ∧ (D 5 = true → x40 = .pointer (some ⟨b5, 3, none⟩)) ∧ (D 6 = true → True) ∧ ∃ n_ : Nat, n_ ≤ 4 ∧ D 2 = decide (1 ≤ n_) ∧ D 3 = decide (2 ≤ n_) ∧ D 4 = decide (3 ≤ n_) ∧ D 6 = decide (4 ≤ n_) ∧ (D 6 = true → D 1 = true) ∧ (orSt (Inv w [br] [.blk b5 (.cells #[.int .i64 k, .int .i64 n, .string s, .slice a1 ks.length q1] t_iTerm), rowG (.slice a1 ks.length q1) t_iTerm 4 css, B4, rdI br sl (p + 1)] S2 w_) (apSt w [br] b5 #[.int .i64 k, .int .i64 n, .string s, .slice a1 ks.length q1] 3 t_iTerm (.slice a1 ks.length q1) css (fun p => [B4, rdI br sl (p + 1)]) (fun cs p' S' => p' = p ∧ S' = S2 ∧ RdT S2 cs (.mk 2 1 emptyB [])) x37 x38 x39 w_) n_), ⟨fun h => Bool.noConfusion h, fun h => Bool.noConfusion h, fun h => Bool.noConfusion h, fun h => Bool.noConfusion h, fun h => Bool.noConfusion h, fun h => Bool.noConfusion h, fun h => Bool.noConfusion h, ⟨0, Nat.zero_le _, rfl, rfl, rfl, rfl, (fun h => Bool.noConfusion h), hI.draw⟩⟩, ⟨?_, ?_, ?_, ?_, ?_, ?_, ?_, trivial⟩, ?_⟩
        · intro D hD_  x40 x39 x38 x37 x36 x35 w_
          rintro ⟨h0_, h1_, h2_, h3_, h4_, h5_, h6_, ⟨n_, ln_, e1_, e2_, e3_, e4_, kp_, hS⟩⟩
          refine r_field fo_iTerm_3 ?_
          exact ⟨fun _ => rfl, h1_, h2_, h3_, h4_, h5_, h6_, ⟨n_, ln_, e1_, e2_, e3_, e4_, kp_, hS⟩⟩
        · intro D hD_ d0_0 x40 x39 x38 x37 x36 x35 w_
          rintro ⟨h0_, h1_, h2_, h3_, h4_, h5_, h6_, ⟨n_, ln_, e1_, e2_, e3_, e4_, kp_, hS⟩⟩
          obtain rfl := h0_ d0_0
          have ln2_ := stgL e4_ kp_ hD_
          refine r_load sc_SiTerm ((or_blk (fun h => h.cellL (i := 0) rfl) (fun n hn h => ap_blk h hn) hS ln2_).trans rfl) ?_
          exact ⟨h0_, fun _ => rfl, h2_, h3_, h4_, h5_, h6_, ⟨n_, ln_, e1_, e2_, e3_, e4_, (fun _ => rfl), hS⟩⟩
        · intro D hD_  x40 x39 x38 x37 x36 x35 w_
          rintro ⟨h0_, h1_, h2_, h3_, h4_, h5_, h6_, ⟨n_, ln_, e1_, e2_, e3_, e4_, kp_, hS⟩⟩
          obtain rfl : n_ = 0 := stg0 e1_ hD_
          refine Run.callPure fn_s_l1Int nm_s_l1Int (L := [.blk b5 _, rowG _ t_iTerm 4 css, B4, rdI br sl (p + 1)]) hS (s_l1Int_calls 1 S2) fun w_ hI => ?_
          exact ⟨h0_, h1_, fun _ => by first | assumption | trivial, h3_, h4_, h5_, h6_, ⟨1, by decide, rfl, (by first | exact e2_ | rfl), (by first | exact e3_ | rfl), (by first | exact e4_ | rfl), kp_, ap0_mk ⟨rfl, rfl, rdT_leaf (by simp [inI]) (by simp [inI])⟩ (rdT_leaf (by simp [inI]) (by simp [inI])) hI⟩⟩
        · intro D hD_ d2_0 x40 x39 x38 x37 x36 x35 w_
          rintro ⟨h0_, h1_, h2_, h3_, h4_, h5_, h6_, ⟨n_, ln_, e1_, e2_, e3_, e4_, kp_, hS⟩⟩
          have g2_ := h2_ d2_0
          obtain rfl : n_ = 1 := stgS e1_ d2_0 e2_ hD_
          refine ap1 hS fun u w_ hS => ?_
          exact ⟨h0_, h1_, h2_, fun _ => by first | assumption | trivial, h4_, h5_, h6_, ⟨2, by decide, (by first | exact e1_ | rfl), rfl, (by first | exact e3_ | rfl), (by first | exact e4_ | rfl), kp_, hS⟩⟩
        · intro D hD_ d1_0 d3_1 d2_2 x40 x39 x38 x37 x36 x35 w_
          rintro ⟨h0_, h1_, h2_, h3_, h4_, h5_, h6_, ⟨n_, ln_, e1_, e2_, e3_, e4_, kp_, hS⟩⟩
          obtain rfl := h1_ d1_0
          have g3_ := h3_ d3_1
          obtain rfl : n_ = 2 := stgS e2_ d3_1 e3_ hD_
          refine ap2 hS (by omega) fun u w_ hS => ?_
          exact ⟨h0_, h1_, h2_, h3_, fun _ => by first | assumption | trivial, h5_, h6_, ⟨3, by decide, (by first | exact e1_ | rfl), (by first | exact e2_ | rfl), rfl, (by first | exact e4_ | rfl), kp_, hS⟩⟩
        · intro D hD_ d0_0 d1_1 d2_2 d3_3 d4_4 x40 x39 x38 x37 x36 x35 w_
          rintro ⟨h0_, h1_, h2_, h3_, h4_, h5_, h6_, ⟨n_, ln_, e1_, e2_, e3_, e4_, kp_, hS⟩⟩
          refine r_field fo_iTerm_3 ?_
          exact ⟨h0_, h1_, h2_, h3_, h4_, fun _ => rfl, h6_, ⟨n_, ln_, e1_, e2_, e3_, e4_, kp_, hS⟩⟩
        · intro D hD_ d5_0 d4_1 d4_2 d0_3 d1_4 d2_5 d3_6 d4_7 x40 x39 x38 x37 x36 x35 w_
          rintro ⟨h0_, h1_, h2_, h3_, h4_, h5_, h6_, ⟨n_, ln_, e1_, e2_, e3_, e4_, kp_, hS⟩⟩
          obtain rfl := h5_ d5_0
          have g4_ := h4_ d4_1
          obtain rfl : n_ = 3 := stgS e3_ d4_1 e4_ hD_
          refine ap3 hS (by simp) fun w_ hS => ?_
          exact ⟨h0_, h1_, h2_, h3_, h4_, h5_, fun _ => trivial, ⟨4, by decide, (by first | exact e1_ | rfl), (by first | exact e2_ | rfl), (by first | exact e3_ | rfl), rfl, (fun _ => d1_4), hS⟩⟩
        intro D d6_ d5_ d4_ d3_ d2_ d1_ d0_ x40 x39 x38 x37 x36 x35 w_
        rintro ⟨h0_, h1_, h2_, h3_, h4_, h5_, h6_, ⟨n_, ln_, e1_, e2_, e3_, e4_, kp_, hS⟩⟩
        obtain rfl : n_ = 4 := stgE ln_ e4_ d6_
        clear e1_ e2_ e3_ e4_
        obtain ⟨p3, S7, cs, ⟨rfl, rfl, hcs⟩, hl, hI⟩ := hS
        have hR2 := hR.snoc hcs hl.1
        refine ⟨⟨S7, _, _, _, hE2, hR2, by rw [List.length_append]; simp only [List.length_cons, List.length_nil]; omega, by rw [wL_append]; have e : emptyB.size = 0 := rfl; simp only [wL, wT, List.length_nil, e]; omega, hI⟩, ?_⟩
        obtain ⟨S', _, _, _, hr⟩ := pub_kids hI hR2 hk hn hs
        obtain ⟨a, q, e, _⟩ := hr
        have hl2 := lenAt_eq hI (i := 0) (o := 3) (a := a) (n := (ks ++ [T.mk 2 1 emptyB []]).length) (m := q) rfl (by rw [← e]; rfl)
        show 5 - lenAt w_ b5 3 < 5 - lenAt w' b5 3
        rw [hl1, hl2, List.length_append, List.length_cons, List.length_nil]
        omega
      · exact hfin hE2 (by omega) hk hn (by omega) hR hkl hkw hI
    refine r_eql ?_
    refine condP (fun _ => ?_) (fun _ => ?_)
    · obtain ⟨S2, hE2, hI, hr, _⟩ := pub_kids hI hR hk hn hs
      have hI : Inv w [br] [.blk b5 (.cells #[.int .i64 k, .int .i64 n, .string s, .slice a0 n0 q0] t_iTerm), B4, rdI br sl (p + 1)] S2 w' := hI
      have ht : T.mk k n s t.kids = t := by rw [hk', hn', hs']; cases t; rfl
      rw [ht] at hr
      refine ⟨fun t6 w' => ∃ (j : Nat) (S3 : Store) (cs1 : List Value) (t1 : T), t6 = .int .i64 (j : Int) ∧ j ≤ 30 ∧ Ext w.heap.size [br] S S3 ∧ RdT S3 cs1 t1 ∧ wT t1 ≤ wT t + 2 * j ∧ Inv w [br] [.blk b5 (.cells cs1.toArray t_iTerm), B4, rdI br sl (p + 1)] S3 w', fun t6 _ => 30 - (intOf t6).toNat,
        ⟨0, S2, _, t, rfl, by omega, hE1.trans hE2, hr, by omega, hI⟩, ?_⟩
      intro t6 _ _ _ _ _ _ _ w'
      rintro ⟨j, S3, cs1, t1, rfl, hj, hE3, hr, hw1, hI⟩
      refine r_lss ?_
      refine condP (fun hj' => ?_) (fun hj' => ?_)
      · refine r_loadW hI 0 ag_iTerm rfl (by simpa using hr.length) ?_
        refine r_slice1 hI mk_SiTerm (by simp [Value.cells, hr.length]) (by omega) (by omega) fun b8 w' hI => ?_
        obtain ⟨S4, hI, hE4, hS⟩ := hI.pub1
        refine Run.call0E fn_s_l1Struct nm_s_l1Struct hI (l1Struct_pub ⟨#[115]⟩ (by decide) (rd_one hS (hr.mono hE4.1)) (by simp)) fun v' I' S5 w' => ?_
        rintro ⟨rfl, cs2, rfl, hcs2⟩ hE5 hI
        have hI : Inv w [br] [.blk b5 (.cells cs1.toArray t_iTerm), B4, rdI br sl (p + 1)] S5 w' := by simpa using hI
        refine r_storeW hI 0 rfl ag_iTerm (by simpa using hcs2.length) (by simpa using hr.length) (by simpa using hcs2.one) fun w' hI => ?_
        refine r_add (by omega) ?_
        have e : (ByteArray.mk #[115]).size = 1 := rfl
        exact ⟨⟨j + 1, S5, cs2, _, rfl, by omega, hE3.trans (hE4.trans hE5), hcs2, by simp only [wT, wL, List.length_cons, List.length_nil, e]; omega, hI⟩, by simp only [intOf, Int.toNat_natCast]; omega⟩
      · exact ⟨p + 1, S3, cs1, t1, by omega, hE3, hr, by omega, hI⟩
    · exact hfin hE1 (by omega) hk hn (by omega) hR (by omega) (Nat.le_refl _) hI
  intro _ _ _ _ _ _ _ _ _ _ _ _ _ _ _ _ _ _ _ _ _ _ _ _ _ _ _ _ _ _ _ _ _ _ _ _ _ _ _ _ _ _ w'
  rintro ⟨p1, S2, cs1, t1, hp1, hE2, hr, hw1, hI⟩
  subst hB4
  refine r_loadW hI 0 ag_iTerm rfl (by simpa using hr.length) ?_
  refine r_storeW hI 1 rfl ag_iTerm (by simpa using hr.length) rfl (by simpa using hr.one) fun w' hI => ?_
  refine loadV_W hI 1 ag_iTerm rfl (by simpa using hr.length) ?_
  exact ⟨_, _, S2, rfl, hI.pick [false, false, true], hE2, p1, hp1, rfl, cs1, t1, rfl, hr, hw1⟩
end
end Go.Proofs.YtmnnpgdeecnfpaaGreat

/- spec.l4Mutate, l4MutateAll. -/
namespace Go.Proofs.YtmnnpgdeecnfpaaGreat
open Go Go.RowKit
section
variable {w0 w : World} {X : List Nat} {L A : List Item} {S : Store} {K : Value → World → Prop} {P : Program}
theorem pub_body {b : Nat} {hd : List Value} {h : T} {kv : Value} {css : List (List Value)} {ks : List T} {o : Obj}
    (hI : Inv w0 X (.blk b o :: rowG kv t_iTerm 4 css :: A) S w) (hR : Rows 4 (RdT S) css ks) (hh : RdT S hd h) :
    ∃ S', Ext w0.heap.size X S S' ∧ Inv w0 X (.blk b o :: A) S' w ∧ RdC S' (hd ++ [kv]) ⟨h, ks⟩ ∧ RdSl S' 4 (RdT S') kv ks := by
  have hI : Inv w0 X ((.blk b o :: A) ++ [rowG kv t_iTerm 4 css]) S w := hI.last 1 rfl
  obtain ⟨S', hE, hrd, hI⟩ := Inv.lendExt hI
  have hrs := RowRd.rows (hR.monoR fun _ _ h => RdT.mono hE.1 h) hrd
  exact ⟨S', hE, hI, ⟨hd, kv, rfl, hh.mono hE.1, hrs⟩, hrs⟩
end
abbrev PostDC (br : Nat) (sl : Value) (p k m : Nat) : Value → List Item → Store → Prop := fun v I' S' => ∃ p', p' ≤ p + k ∧ I' = [rdI br sl p'] ∧ ∃ cs c, v = .agg cs.toArray ∧ RdC S' cs c ∧ wC c ≤ m
section
variable {br : Nat} {sl : Value} {ys : List Nat}
attribute [local irreducible] Run CondV GuardV LoadV
theorem l4Mutate_calls {p : Nat} {S : Store} {cs : List Value} {c : C} (hrd : RdSl S 1 RdU8 sl ys) (h : RdC S cs c) (hw : wC c ≤ 100000) (hp : p ≤ 90000000) :
    Tri Tryz.prog n_s_l4Mutate [rdP br, .agg cs.toArray] [rdI br sl p] S (PostDC br sl p 600 (wC c + 700)) := by
  intro w hI
  have hl5 := h.length
  refine calls_s_l4Mutate ?_
  unfold sh_s_l4Mutate
  refine r_box hI fun b3 w' hI => ?_
  refine r_alloc hI zo_iClause fun b4 w' hI => ?_
  refine r_loadW hI 1 ag_iClause rfl (by simpa [Value.cells] using hl5) ?_
  refine Run.call0E fn_s_l4Copy nm_s_l4Copy hI (l4CopyTop h (by omega)) fun v' I' S1 w' => ?_
  rintro ⟨hd, kv, css, rfl, hhd, rfl, hR⟩ hE1 hI
  have hE1 : Ext w.heap.size [br] S S1 := hE1
  obtain ⟨a0, n0, q0, rfl⟩ := hI.rowSlice 3 rfl
  have hhd0 := hhd
  obtain ⟨k4, rfl, hk, hn, hs, _⟩ := RdT.iff.1 hhd
  obtain ⟨ak, nk, ck, hk4⟩ : ∃ a n c, k4 = .slice a n c := by
    obtain ⟨_, e, _, _, _, a, q, rfl, _⟩ := RdT.iff.1 hhd0
    simp only [List.cons.injEq, and_true, true_and] at e
    exact ⟨_, _, _, e⟩
  subst hk4
  refine r_alloc hI zo_iClause fun b5 w' hI => ?_
  refine r_storeW hI 4 rfl ag_iClause rfl rfl (by simp [Value.oneCell']) fun w' hI => ?_
  obtain ⟨B4, hB4⟩ : ∃ B4, B4 = Item.blk b4 (.cells #[.int .i64 0, .int .i64 0, .string ⟨#[]⟩, .slice none 0 0, .slice none 0 0] t_iClause) := ⟨_, rfl⟩
  have hI : Inv w [br] [.blk b5 (.cells #[.int .i64 c.head.kind, .int .i64 c.head.n, .string c.head.name, .slice ak nk ck, .slice a0 n0 q0] t_iClause), rowG (.slice a0 n0 q0) t_iTerm 4 css, B4, rdI br sl p] S1 w' := by
    rw [hB4]
    exact (((hI.pick [true, false, true, true, true]).last 2 rfl).last 1 rfl).last 0 rfl
  have hwc : wC c = wT c.head + c.body.length + wL c.body := rfl
  refine ⟨fun w' => ∃ (p1 : Nat) (S2 : Store) (cs1 : List Value) (c1 : C), p1 ≤ p + 600 ∧ Ext w.heap.size [br] S S2 ∧ RdC S2 cs1 c1 ∧ wC c1 ≤ wC c + 700 ∧ Inv w [br] [.blk b5 (.cells cs1.toArray t_iClause), B4, rdI br sl p1] S2 w', ?_, ?_⟩
  · have hfin : ∀ {hd : List Value} {h : T} {p1 : Nat} {w' : World} {S1 : Store} {css : List (List Value)} {kv : Value} {ks : List T}, Ext w.heap.size [br] S S1 → p1 ≤ p + 600 → RdT S1 hd h → Rows 4 (RdT S1) css ks → wT h + ks.length + wL ks ≤ wC c + 700 →
        Inv w [br] [.blk b5 (.cells (hd ++ [kv]).toArray t_iClause), rowG kv t_iTerm 4 css, B4, rdI br sl p1] S1 w' →
        ∃ (p1 : Nat) (S2 : Store) (cs1 : List Value) (c1 : C), p1 ≤ p + 600 ∧ Ext w.heap.size [br] S S2 ∧ RdC S2 cs1 c1 ∧ wC c1 ≤ wC c + 700 ∧ Inv w [br] [.blk b5 (.cells cs1.toArray t_iClause), B4, rdI br sl p1] S2 w' := by
      intro hd h p1 w' S1 css kv ks hE hp1 hh hR hwn hI
      obtain ⟨S2, hE2, hI, hr, _⟩ := pub_body hI hR hh
      exact ⟨p1, S2, _, _, hp1, hE.trans hE2, hr, hwn, hI⟩
    refine Run.callL fn_s_l18Rd_pick nm_s_l18Rd_pick hI (pick_calls (n := 40) (hrd.monoU hE1.1) (by omega) (by omega)) rfl fun v' I' S1 w' => ?_
    rintro ⟨rfl, rfl, kk, hkk, rfl⟩ _ hI
    refine r_eql ?_
    refine condP (fun _ => ?_) (fun _ => ?_)
    · refine Run.callL fn_s_l1Some nm_s_l1Some hI (l1Some_calls (p := p + 1) (hrd.monoU hE1.1) (by omega)) rfl fun v' I' S2 w' => ?_
      rintro ⟨p2, hp2, rfl, cs2, t2, rfl, hr2, hw2⟩ hE2 hI
      refine Run.callL fn_s_l1Mutate nm_s_l1Mutate hI (l1Mutate_calls (p := p2) (hrd.monoU (hE1.trans hE2).1) hr2 (by omega) (by omega)) rfl fun v' I' S3 w' => ?_
      rintro ⟨p3, hp3, rfl, cs3, t3, rfl, hr3, hw3⟩ hE3 hI
      have hr3' := hr3
      obtain ⟨k3, rfl, _, _, _, a3, q3, rfl, _⟩ := RdT.iff.1 hr3
      refine r_field fo_iClause_0 ?_
      refine r_storeB hI 0 rfl ag_iTerm rfl rfl (by simp [Value.cells, Value.oneCell']) fun w' hI => ?_
      exact hfin ((hE1.trans hE2).trans hE3) (by omega) hr3' (hR.monoR fun _ _ h => RdT.mono (hE2.trans hE3).1 h) (by omega) hI
    refine r_eql ?_
    refine condP (fun _ => ?_) (fun _ => ?_)
    · have hcl := hR.hc
      have hI := hI
      refine ⟨fun D x27 x26 x25 x24 x23 x22 x21 x20 x19 w_ => (D 0 = true → x19 = .pointer (some ⟨b5, 4, none⟩)) ∧ (D 1 = true → x20 = .slice a0 n0 q0) ∧ (D 2 = true → x21 = rdP br) ∧ (D 3 = true → x22 = rdP br) ∧ (D 4 = true → True) ∧ (D 5 = true → True) ∧ (D 6 = true → True) ∧ (D 7 = true → True) ∧ (D 8 = true → x27 = .pointer (some ⟨b5, 4, none⟩)) ∧ (D 9 = true → True) ∧ ∃ n_ : Nat, n_ ≤ 5 ∧ D 4 = decide (1 ≤ n_) ∧ D 5 = decide (2 ≤ n_) ∧ D 6 = decide (3 ≤ n_) ∧ D 7 = decide (4 ≤ n_) ∧ D 9 = decide (5 ≤ n_) ∧ (D 9 = true → D 1 = true) ∧ (orSt (Inv w [br] [.blk b5 (.cells #[.int .i64 c.head.kind, .int .i64 c.head.n, .string c.head.name, .slice ak nk ck, .slice a0 n0 q0] t_iClause), rowG (.slice a0 n0 q0) t_iTerm 4 css, B4, rdI br sl (p + 1)] S1 w_) (orSt (∃ p1 S2 cs t, x23 = .agg cs.toArray ∧ RdT S2 cs t ∧ wT t ≤ 500 ∧ p1 ≤ p + 501 ∧ Ext w.heap.size [br] S1 S2 ∧ Inv w [br] [.blk b5 (.cells #[.int .i64 c.head.kind, .int .i64 c.head.n, .string c.head.name, .slice ak nk ck, .slice a0 n0 q0] t_iClause), rowG (.slice a0 n0 q0) t_iTerm 4 css, B4, rdI br sl p1] S2 w_) (apSt w [br] b5 #[.int .i64 c.head.kind, .int .i64 c.head.n, .string c.head.name, .slice ak nk ck, .slice a0 n0 q0] 4 t_iClause (.slice a0 n0 q0) css (fun p => [B4, rdI br sl p]) (fun cs p' S' => ∃ t, RdT S' cs t ∧ wT t ≤ 600 ∧ p' ≤ p + 503 ∧ Ext w.heap.size [br] S1 S') x24 x25 x26 w_)) n_), ⟨fun h => Bool.noConfusion h, fun h => Bool.noConfusion h, fun h => Bool.noConfusion h, fun h => Bool.noConfusion h, fun h => Bool.noConfusion h, fun h => Bool.noConfusion h, fun h => Bool.noConfusion h, fun h => Bool.noConfusion h, fun h => Bool.noConfusion h, fun h => Bool.noConfusion h, ⟨0, Nat.zero_le _, rfl, rfl, rfl, rfl, rfl, (fun h => Bool.noConfusion h), hI.draw⟩⟩, ⟨?_, ?_, ?_, ?_, ?_, ?_, ?_, ?_, ?_, ?_, trivial⟩, ?_⟩
      · intro D hD_  x27 x26 x25 x24 x23 x22 x21 x20 x19 w_
        rintro ⟨h0_, h1_, h2_, h3_, h4_, h5_, h6_, h7_, h8_, h9_, ⟨n_, ln_, e1_, e2_, e3_, e4_, e5_, kp_, hS⟩⟩
        refine r_field fo_iClause_1 ?_
        exact ⟨fun _ => rfl, h1_, h2_, h3_, h4_, h5_, h6_, h7_, h8_, h9_, ⟨n_, ln_, e1_, e2_, e3_, e4_, e5_, kp_, hS⟩⟩
      · intro D hD_ d0_0 x27 x26 x25 x24 x23 x22 x21 x20 x19 w_
        rintro ⟨h0_, h1_, h2_, h3_, h4_, h5_, h6_, h7_, h8_, h9_, ⟨n_, ln_, e1_, e2_, e3_, e4_, e5_, kp_, hS⟩⟩
        obtain rfl := h0_ d0_0
        have ln2_ := stgL e5_ kp_ hD_
        refine r_load sc_SiTerm ((or_blk4 (fun h => h.cellL (i := 0) rfl) (fun ⟨_, _, _, _, _, _, _, _, _, h⟩ => h.cellL (i := 0) rfl) (fun n hn h => ap_blk h hn) hS ln2_).trans rfl) ?_
        exact ⟨h0_, fun _ => rfl, h2_, h3_, h4_, h5_, h6_, h7_, h8_, h9_, ⟨n_, ln_, e1_, e2_, e3_, e4_, e5_, (fun _ => rfl), hS⟩⟩
      · intro D hD_  x27 x26 x25 x24 x23 x22 x21 x20 x19 w_
        rintro ⟨h0_, h1_, h2_, h3_, h4_, h5_, h6_, h7_, h8_, h9_, ⟨n_, ln_, e1_, e2_, e3_, e4_, e5_, kp_, hS⟩⟩
        exact ⟨h0_, h1_, fun _ => rfl, h3_, h4_, h5_, h6_, h7_, h8_, h9_, ⟨n_, ln_, e1_, e2_, e3_, e4_, e5_, kp_, hS⟩⟩
      · intro D hD_  x27 x26 x25 x24 x23 x22 x21 x20 x19 w_
        rintro ⟨h0_, h1_, h2_, h3_, h4_, h5_, h6_, h7_, h8_, h9_, ⟨n_, ln_, e1_, e2_, e3_, e4_, e5_, kp_, hS⟩⟩
        exact ⟨h0_, h1_, h2_, fun _ => rfl, h4_, h5_, h6_, h7_, h8_, h9_, ⟨n_, ln_, e1_, e2_, e3_, e4_, e5_, kp_, hS⟩⟩
      · intro D hD_ d3_0 x27 x26 x25 x24 x23 x22 x21 x20 x19 w_
        rintro ⟨h0_, h1_, h2_, h3_, h4_, h5_, h6_, h7_, h8_, h9_, ⟨n_, ln_, e1_, e2_, e3_, e4_, e5_, kp_, hS⟩⟩
        obtain rfl := h3_ d3_0
        obtain rfl : n_ = 0 := stg0 e1_ hD_
        refine Run.callL fn_s_l1Some nm_s_l1Some (L := [.blk b5 _, rowG _ t_iTerm 4 css, B4, rdI br sl (p + 1)]) hS (l1Some_calls (p := p + 1) (hrd.monoU hE1.1) (by omega)) rfl fun v' I' S2 w_ => ?_
        rintro ⟨p2, hp2, rfl, cs2, t2, rfl, hr2, hw2⟩ hE2 hI
        exact ⟨h0_, h1_, h2_, h3_, fun _ => by first | assumption | trivial, h5_, h6_, h7_, h8_, h9_, ⟨1, by decide, rfl, (by first | exact e2_ | rfl), (by first | exact e3_ | rfl), (by first | exact e4_ | rfl), (by first | exact e5_ | rfl), kp_, ⟨p2, S2, cs2, t2, rfl, hr2, hw2, by omega, hE2, hI⟩⟩⟩
      · intro D hD_ d2_0 d4_1 d4_2 x27 x26 x25 x24 x23 x22 x21 x20 x19 w_
        rintro ⟨h0_, h1_, h2_, h3_, h4_, h5_, h6_, h7_, h8_, h9_, ⟨n_, ln_, e1_, e2_, e3_, e4_, e5_, kp_, hS⟩⟩
        obtain rfl := h2_ d2_0
        have g4_ := h4_ d4_1
        obtain rfl : n_ = 1 := stgS e1_ d4_1 e2_ hD_
        obtain ⟨p2, S2, cs2, t2, rfl, hr2, hw2, hp2, hE2, hI⟩ := or_in hS
        refine Run.callL fn_s_l1Mutate nm_s_l1Mutate (L := [.blk b5 _, rowG _ t_iTerm 4 css, B4, rdI br sl p2]) hI (l1Mutate_calls (p := p2) (hrd.monoU (hE1.trans hE2).1) hr2 (by omega) (by omega)) rfl fun v' I' S3 w_ => ?_
        rintro ⟨p3, hp3, rfl, cs3, t3, rfl, hr3, hw3⟩ hE3 hI
        exact ⟨h0_, h1_, h2_, h3_, h4_, fun _ => by first | assumption | trivial, h6_, h7_, h8_, h9_, ⟨2, by decide, (by first | exact e1_ | rfl), rfl, (by first | exact e3_ | rfl), (by first | exact e4_ | rfl), (by first | exact e5_ | rfl), kp_, or_up (ap0_mk ⟨t3, hr3, by omega, by omega, hE2.trans hE3⟩ hr3 hI)⟩⟩
      · intro D hD_ d5_0 x27 x26 x25 x24 x23 x22 x21 x20 x19 w_
        rintro ⟨h0_, h1_, h2_, h3_, h4_, h5_, h6_, h7_, h8_, h9_, ⟨n_, ln_, e1_, e2_, e3_, e4_, e5_, kp_, hS⟩⟩
        have g5_ := h5_ d5_0
        obtain rfl : n_ = 2 := stgS e2_ d5_0 e3_ hD_
        refine ap1 (or_in hS) fun u w_ hS => ?_
        exact ⟨h0_, h1_, h2_, h3_, h4_, h5_, fun _ => by first | assumption | trivial, h7_, h8_, h9_, ⟨3, by decide, (by first | exact e1_ | rfl), (by first | exact e2_ | rfl), rfl, (by first | exact e4_ | rfl), (by first | exact e5_ | rfl), kp_, or_up hS⟩⟩
      · intro D hD_ d1_0 d6_1 d5_2 x27 x26 x25 x24 x23 x22 x21 x20 x19 w_
        rintro ⟨h0_, h1_, h2_, h3_, h4_, h5_, h6_, h7_, h8_, h9_, ⟨n_, ln_, e1_, e2_, e3_, e4_, e5_, kp_, hS⟩⟩
        obtain rfl := h1_ d1_0
        have g6_ := h6_ d6_1
        obtain rfl : n_ = 3 := stgS e3_ d6_1 e4_ hD_
        refine ap2 (or_in hS) (by omega) fun u w_ hS => ?_
        exact ⟨h0_, h1_, h2_, h3_, h4_, h5_, h6_, fun _ => by first | assumption | trivial, h8_, h9_, ⟨4, by decide, (by first | exact e1_ | rfl), (by first | exact e2_ | rfl), (by first | exact e3_ | rfl), rfl, (by first | exact e5_ | rfl), kp_, or_up hS⟩⟩
      · intro D hD_ d0_0 d1_1 d2_2 d3_3 d4_4 d5_5 d6_6 d7_7 x27 x26 x25 x24 x23 x22 x21 x20 x19 w_
        rintro ⟨h0_, h1_, h2_, h3_, h4_, h5_, h6_, h7_, h8_, h9_, ⟨n_, ln_, e1_, e2_, e3_, e4_, e5_, kp_, hS⟩⟩
        refine r_field fo_iClause_1 ?_
        exact ⟨h0_, h1_, h2_, h3_, h4_, h5_, h6_, h7_, fun _ => rfl, h9_, ⟨n_, ln_, e1_, e2_, e3_, e4_, e5_, kp_, hS⟩⟩
      · intro D hD_ d8_0 d7_1 d7_2 d0_3 d1_4 d2_5 d3_6 d4_7 d5_8 d6_9 d7_10 x27 x26 x25 x24 x23 x22 x21 x20 x19 w_
        rintro ⟨h0_, h1_, h2_, h3_, h4_, h5_, h6_, h7_, h8_, h9_, ⟨n_, ln_, e1_, e2_, e3_, e4_, e5_, kp_, hS⟩⟩
        obtain rfl := h8_ d8_0
        have g7_ := h7_ d7_1
        obtain rfl : n_ = 4 := stgS e4_ d7_1 e5_ hD_
        refine ap3 (or_in hS) (by simp) fun w_ hS => ?_
        exact ⟨h0_, h1_, h2_, h3_, h4_, h5_, h6_, h7_, h8_, fun _ => trivial, ⟨5, by decide, (by first | exact e1_ | rfl), (by first | exact e2_ | rfl), (by first | exact e3_ | rfl), (by first | exact e4_ | rfl), rfl, (fun _ => d1_4), or_up hS⟩⟩
      intro D d9_ d8_ d7_ d6_ d5_ d4_ d3_ d2_ d1_ d0_ x27 x26 x25 x24 x23 x22 x21 x20 x19 w_
      rintro ⟨h0_, h1_, h2_, h3_, h4_, h5_, h6_, h7_, h8_, h9_, ⟨n_, ln_, e1_, e2_, e3_, e4_, e5_, kp_, hS⟩⟩
      obtain rfl : n_ = 5 := stgE ln_ e5_ d9_
      clear e1_ e2_ e3_ e4_ e5_
      obtain ⟨p3, S7, cs, ⟨t, hcs, hwt, hp3, hE7⟩, hl, hI⟩ := or_in (or_in hS)
      exact hfin (hE1.trans hE7) (by omega) (hhd0.mono hE7.1) ((hR.monoR fun _ _ h => RdT.mono hE7.1 h).snoc hcs hl.1) (by rw [wL_append, List.length_append, List.length_cons, List.length_nil]; simp only [wL]; omega) hI
    refine r_eql ?_
    refine condP (fun _ => ?_) (fun _ => ?_)
    · refine ⟨fun w' => ∃ (S2 : Store) (kv : Value) (css : List (List Value)) (ks : List T), Ext w.heap.size [br] S S2 ∧ Rows 4 (RdT S2) css ks ∧ ks.length ≤ c.body.length + 7 ∧ wL ks + 4 * (7 - (ks.length - c.body.length)) ≤ wL c.body + 28 ∧ c.body.length ≤ ks.length ∧
          RdT S2 [.int .i64 c.head.kind, .int .i64 c.head.n, .string c.head.name, .slice ak nk ck] c.head ∧
          Inv w [br] [.blk b5 (.cells #[.int .i64 c.head.kind, .int .i64 c.head.n, .string c.head.name, .slice ak nk ck, kv] t_iClause), rowG kv t_iTerm 4 css, B4, rdI br sl (p + 1)] S2 w', fun w' => 7 - lenAt w' b5 4, ⟨S1, _, css, c.body, hE1, hR, by omega, by omega, by omega, hhd0, hI⟩, ?_⟩
      intro t39 t38 t37 t36 t35 t34 _ _ _ _ w'
      rintro ⟨S2, kv, css, ks, hE2, hR, hkl, hkw, hkb, hhd, hI⟩
      obtain ⟨a1, n1, q1, rfl, hn1⟩ : ∃ a m c, kv = .slice a m c ∧ m = ks.length := by
        obtain ⟨S', _, _, _, hr⟩ := pub_body hI hR hhd
        obtain ⟨a, q, rfl, _⟩ := hr
        exact ⟨a, _, q, rfl, rfl⟩
      subst hn1
      have hl1 := lenAt_eq hI (i := 0) (o := 4) rfl rfl
      have hcl := hR.hc
      refine r_fieldL hI 0 rfl fo_iClause_1 sc_SiTerm rfl ?_
      refine r_len sl_SiTerm ?_
      refine r_leq ?_
      refine condP (fun hle => ?_) (fun hle => ?_)
      · have hI := hI
        refine ⟨fun D x39 x38 x37 x36 x35 x34 w_ => (D 0 = true → x34 = .pointer (some ⟨b5, 4, none⟩)) ∧ (D 1 = true → x35 = .slice a1 ks.length q1) ∧ (D 2 = true → True) ∧ (D 3 = true → True) ∧ (D 4 = true → True) ∧ (D 5 = true → x39 = .pointer (some ⟨b5, 4, none⟩)) ∧ (D 6 = true → True) ∧ ∃ n_ : Nat, n_ ≤ 4 ∧ D 2 = decide (1 ≤ n_) ∧ D 3 = decide (2 ≤ n_) ∧ D 4 = decide (3 ≤ n_) ∧ D 6 = decide (4 ≤ n_) ∧ (D 6 = true → D 1 = true) ∧ (orSt (Inv w [br] [.blk b5 (.cells #[.int .i64 c.head.kind, .int .i64 c.head.n, .string c.head.name, .slice ak nk ck, .slice a1 ks.length q1] t_iClause), rowG (.slice a1 ks.length q1) t_iTerm 4 css, B4, rdI br sl (p + 1)] S2 w_) (apSt w [br] b5 #[.int .i64 c.head.kind, .int .i64 c.head.n, .string c.head.name, .slice ak nk ck, .slice a1 ks.length q1] 4 t_iClause (.slice a1 ks.length q1) css (fun p => [B4, rdI br sl (p + 1)]) (fun cs p' S' => p' = p ∧ Ext w.heap.size [br] S2 S' ∧ RdT S' cs (.mk 3 0 ⟨#[116, 114, 117, 101]⟩ [])) x36 x37 x38 w_) n_), ⟨fun h => Bool.noConfusion h, fun h => Bool.noConfusion h, fun h => Bool.noConfusion h, fun h => Bool.noConfusion h, fun h => Bool.noConfusion h, fun h => Bool.noConfusion h, fun h => Bool.noConfusion h, ⟨0, Nat.zero_le _, rfl, rfl, rfl, rfl, (fun h => Bool.noConfusion h), hI.draw⟩⟩, ⟨?_, ?_, ?_, ?_, ?_, ?_, ?_, trivial⟩, ?_⟩
        · intro D hD_  x39 x38 x37 x36 x35 x34 w_
          rintro ⟨h0_, h1_, h2_, h3_, h4_, h5_, h6_, ⟨n_, ln_, e1_, e2_, e3_, e4_, kp_, hS⟩⟩
          refine r_field fo_iClause_1 ?_
          exact ⟨fun _ => rfl, h1_, h2_, h3_, h4_, h5_, h6_, ⟨n_, ln_, e1_, e2_, e3_, e4_, kp_, hS⟩⟩
        · intro D hD_ d0_0 x39 x38 x37 x36 x35 x34 w_
          rintro ⟨h0_, h1_, h2_, h3_, h4_, h5_, h6_, ⟨n_, ln_, e1_, e2_, e3_, e4_, kp_, hS⟩⟩
          obtain rfl := h0_ d0_0
          have ln2_ := stgL e4_ kp_ hD_
          refine r_load sc_SiTerm ((or_blk (fun h => h.cellL (i := 0) rfl) (fun n hn h => ap_blk h hn) hS ln2_).trans rfl) ?_
          exact ⟨h0_, fun _ => rfl, h2_, h3_, h4_, h5_, h6_, ⟨n_, ln_, e1_, e2_, e3_, e4_, (fun _ => rfl), hS⟩⟩
        · intro D hD_  x39 x38 x37 x36 x35 x34 w_
          rintro ⟨h0_, h1_, h2_, h3_, h4_, h5_, h6_, ⟨n_, ln_, e1_, e2_, e3_, e4_, kp_, hS⟩⟩
          obtain rfl : n_ = 0 := stg0 e1_ hD_
          refine Run.call0E fn_s_l1Struct nm_s_l1Struct (L := [.blk b5 _, rowG _ t_iTerm 4 css, B4, rdI br sl (p + 1)]) hS (l1Struct_pub ⟨#[116, 114, 117, 101]⟩ (by decide) (rd_none S2) (by simp)) fun v' I' S3 w_ => ?_
          rintro ⟨rfl, cs3, rfl, hcs3⟩ hE3 hI
          exact ⟨h0_, h1_, fun _ => by first | assumption | trivial, h3_, h4_, h5_, h6_, ⟨1, by decide, rfl, (by first | exact e2_ | rfl), (by first | exact e3_ | rfl), (by first | exact e4_ | rfl), kp_, ap0_mk ⟨rfl, hE3, hcs3⟩ hcs3 hI⟩⟩
        · intro D hD_ d2_0 x39 x38 x37 x36 x35 x34 w_
          rintro ⟨h0_, h1_, h2_, h3_, h4_, h5_, h6_, ⟨n_, ln_, e1_, e2_, e3_, e4_, kp_, hS⟩⟩
          have g2_ := h2_ d2_0
          obtain rfl : n_ = 1 := stgS e1_ d2_0 e2_ hD_
          refine ap1 hS fun u w_ hS => ?_
          exact ⟨h0_, h1_, h2_, fun _ => by first | assumption | trivial, h4_, h5_, h6_, ⟨2, by decide, (by first | exact e1_ | rfl), rfl, (by first | exact e3_ | rfl), (by first | exact e4_ | rfl), kp_, hS⟩⟩
        · intro D hD_ d1_0 d3_1 d2_2 x39 x38 x37 x36 x35 x34 w_
          rintro ⟨h0_, h1_, h2_, h3_, h4_, h5_, h6_, ⟨n_, ln_, e1_, e2_, e3_, e4_, kp_, hS⟩⟩
          obtain rfl := h1_ d1_0
          have g3_ := h3_ d3_1
          obtain rfl : n_ = 2 := stgS e2_ d3_1 e3_ hD_
          refine ap2 hS (by omega) fun u w_ hS => ?_
          exact ⟨h0_, h1_, h2_, h3_, fun _ => by first | assumption | trivial, h5_, h6_, ⟨3, by decide, (by first | exact e1_ | rfl), (by first | exact e2_ | rfl), rfl, (by first | exact e4_ | rfl), kp_, hS⟩⟩
        · intro D hD_ d0_0 d1_1 d2_2 d3_3 d4_4 x39 x38 x37 x36 x35 x34 w_
          rintro ⟨h0_, h1_, h2_, h3_, h4_, h5_, h6_, ⟨n_, ln_, e1_, e2_, e3_, e4_, kp_, hS⟩⟩
          refine r_field fo_iClause_1 ?_
          exact ⟨h0_, h1_, h2_, h3_, h4_, fun _ => rfl, h6_, ⟨n_, ln_, e1_, e2_, e3_, e4_, kp_, hS⟩⟩
        · intro D hD_ d5_0 d4_1 d4_2 d0_3 d1_4 d2_5 d3_6 d4_7 x39 x38 x37 x36 x35 x34 w_
          rintro ⟨h0_, h1_, h2_, h3_, h4_, h5_, h6_, ⟨n_, ln_, e1_, e2_, e3_, e4_, kp_, hS⟩⟩
          obtain rfl := h5_ d5_0
          have g4_ := h4_ d4_1
          obtain rfl : n_ = 3 := stgS e3_ d4_1 e4_ hD_
          refine ap3 hS (by simp) fun w_ hS => ?_
          exact ⟨h0_, h1_, h2_, h3_, h4_, h5_, fun _ => trivial, ⟨4, by decide, (by first | exact e1_ | rfl), (by first | exact e2_ | rfl), (by first | exact e3_ | rfl), rfl, (fun _ => d1_4), hS⟩⟩
        intro D d6_ d5_ d4_ d3_ d2_ d1_ d0_ x39 x38 x37 x36 x35 x34 w_
        rintro ⟨h0_, h1_, h2_, h3_, h4_, h5_, h6_, ⟨n_, ln_, e1_, e2_, e3_, e4_, kp_, hS⟩⟩
        obtain rfl : n_ = 4 := stgE ln_ e4_ d6_
        clear e1_ e2_ e3_ e4_
        obtain ⟨p3, S7, cs, ⟨rfl, hE7, hcs⟩, hl, hI⟩ := hS
        have hR2 := (hR.monoR fun _ _ h => RdT.mono hE7.1 h).snoc hcs hl.1
        have e4 : (ByteArray.mk #[116, 114, 117, 101]).size = 4 := rfl
        refine ⟨⟨S7, _, _, _, hE2.trans hE7, hR2, by rw [List.length_append]; simp only [List.length_cons, List.length_nil]; omega, by rw [wL_append, List.length_append, List.length_cons, List.length_nil]; simp only [wL, wT, List.length_nil, e4]; omega, by rw [List.length_append]; omega, hhd.mono hE7.1, hI⟩, ?_⟩
        obtain ⟨S', _, _, _, hr⟩ := pub_body hI hR2 (hhd.mono hE7.1)
        obtain ⟨a, q, e, _⟩ := hr
        have hl2 := lenAt_eq hI (i := 0) (o := 4) (a := a) (n := (ks ++ [T.mk 3 0 ⟨#[116, 114, 117, 101]⟩ []]).length) (m := q) rfl (by rw [← e]; rfl)
        show 7 - lenAt w_ b5 4 < 7 - lenAt w' b5 4
        rw [hl1, hl2, List.length_append, List.length_cons, List.length_nil]
        omega
      · exact hfin hE2 (by omega) hhd hR (by omega) hI
    refine r_eql ?_
    refine condP (fun _ => ?_) (fun _ => ?_)
    · refine r_strs hI (by kernel_rfl) rfl (by omega) fun v S3 w' hE3 hv hI => ?_
      refine Run.callL fn_s_l18Rd_of nm_s_l18Rd_of hI (of_calls (p := p + 1) (hrd.monoU (hE1.trans hE3).1) hv (by decide) (by omega)) rfl fun v' I' S3 w' => ?_
      rintro ⟨rfl, rfl, m, hm, rfl⟩ _ hI
      have hm := str_mem (m := 7) hm (by decide)
      refine r_field fo_iClause_0 ?_
      refine r_field fo_iTerm_2 ?_
      refine r_store hI 0 (n := 1) rfl (by decide +kernel) rfl (by simp) (by simp [Value.cells, Value.oneCell']) fun w' hI => ?_
      have hr0 := hhd0.mono hE3.1
      obtain ⟨k3, e3, _, _, _, hk3⟩ := RdT.iff.1 hr0
      have hr1 : RdT S3 [.int .i64 c.head.kind, .int .i64 c.head.n, .string m, .slice ak nk ck] (.mk c.head.kind c.head.n m c.head.kids) := by
        simp only [List.cons.injEq, and_true, true_and] at e3
        exact RdT.iff.2 ⟨_, rfl, hk, hn, by simp only [T.name, maxLen]; omega, e3 ▸ hk3⟩
      refine hfin (hE1.trans hE3) (by omega) hr1 (hR.monoR fun _ _ h => RdT.mono hE3.1 h) ?_ hI
      have : wT c.head = c.head.name.size + c.head.kids.length + wL c.head.kids := by cases c.head; rw [wT]; rfl
      rw [wT]
      omega
    · exact hfin hE1 (by omega) hhd0 hR (by omega) hI
  intro _ _ _ _ _ _ _ _ _ _ _ _ _ _ _ _ _ _ _ _ _ _ _ _ _ _ _ _ _ _ _ _ _ _ _ _ _ _ _ w'
  rintro ⟨p1, S2, cs1, c1, hp1, hE2, hr, hw1, hI⟩
  subst hB4
  refine r_loadW hI 0 ag_iClause rfl (by simpa using hr.length) ?_
  refine r_storeW hI 1 rfl ag_iClause (by simpa using hr.length) rfl (by simpa using hr.one) fun w' hI => ?_
  refine loadV_W hI 1 ag_iClause rfl (by simpa using hr.length) ?_
  exact ⟨_, _, S2, rfl, hI.pick [false, false, true], hE2, p1, hp1, rfl, cs1, c1, rfl, hr, hw1⟩
end
end Go.Proofs.YtmnnpgdeecnfpaaGreat

/- spec.l4MutateAll, l4Texts, l4Program, l4Clause, l14Two. -/
namespace Go.Proofs.YtmnnpgdeecnfpaaGreat
open Go Go.RowKit
def Light (n m : Nat) (q : List C) : Prop := q.length ≤ n ∧ ∀ c ∈ q, wC c ≤ m
theorem Light.le {n m : Nat} {q : List C} (h : Light n m q) : q.length + wP q ≤ n + n * m := by
  have : ∀ q : List C, (∀ c ∈ q, wC c ≤ m) → wP q ≤ q.length * m := by
    intro q
    induction q with
    | nil => intro _; simp [wP]
    | cons c q ih =>
      intro h
      have h1 := h c (List.mem_cons_self ..)
      have h2 := ih fun d hd => h d (List.mem_cons_of_mem _ hd)
      simp only [wP, List.length_cons, Nat.succ_mul]
      omega
  have h1 := this q h.2
  have h2 : q.length * m ≤ n * m := Nat.mul_le_mul_right _ h.1
  have := h.1
  omega
theorem Light.append {n n' m : Nat} {q q' : List C} (h : Light n m q) (h' : Light n' m q') : Light (n + n') m (q ++ q') :=
  ⟨by rw [List.length_append]; exact Nat.add_le_add h.1 h'.1, fun c hc => (List.mem_append.1 hc).elim (h.2 c) (h'.2 c)⟩
abbrev PostDP (br : Nat) (sl : Value) (p k n m : Nat) : Value → List Item → Store → Prop := fun v I' S' => ∃ p', p' ≤ p + k ∧ I' = [rdI br sl p'] ∧ ∃ q, RdSl S' 5 (RdC S') v q ∧ Light n m q
/- a program that is still the caller's own row -/
abbrev PostDR (br : Nat) (sl : Value) (p k n m : Nat) : Value → List Item → Store → Prop := fun v I' S' => ∃ p' css q, p' ≤ p + k ∧ I' = [rowG v t_iClause 5 css, rdI br sl p'] ∧ Rows 5 (RdC S') css q ∧ Light n m q ∧ 0 < q.length
section
variable {w0 w : World} {X : List Nat} {L A : List Item} {S : Store}
theorem pub_prog {v : Value} {css : List (List Value)} {q : List C} (hI : Inv w0 X (rowG v t_iClause 5 css :: A) S w) (hR : Rows 5 (RdC S) css q) :
    ∃ S', Ext w0.heap.size X S S' ∧ Inv w0 X A S' w ∧ RdSl S' 5 (RdC S') v q := by
  have hI : Inv w0 X (A ++ [rowG v t_iClause 5 css]) S w := hI.last 0 rfl
  obtain ⟨S', hE, hrd, hI⟩ := Inv.lendExt hI
  exact ⟨S', hE, hI, RowRd.rows (hR.monoR fun _ _ h => RdC.mono hE.1 h) hrd⟩
end
section
variable {br : Nat} {sl : Value} {ys : List Nat}
attribute [local irreducible] Run CondV GuardV LoadV
theorem zC_wt : wC ⟨.mk 3 0 ⟨#[122]⟩ [], []⟩ = 1 := by
  have e : (ByteArray.mk #[122]).size = 1 := rfl
  simp only [wC, wT, wL, List.length_nil, e]
theorem l4MutateAll_calls {p m : Nat} {S : Store} {v : Value} {q : List C} (hrd : RdSl S 1 RdU8 sl ys) (h : RdSl S 5 (RdC S) v q) (hq : Light 30 m q) (h0 : 0 < q.length) (hm : m ≤ 2000) (hp : p ≤ 50000000) :
    Tri Tryz.prog n_s_l4MutateAll [rdP br, v] [rdI br sl p] S (PostDP br sl p 20000 30 (m + 700)) := by
  intro w hI
  refine calls_s_l4MutateAll ?_
  unfold sh_s_l4MutateAll
  have hql := hq.1
  refine r_slice0 hI mk_SiClause fun v0 w' hI => ?_
  have hI : Inv w [br] [rowG v0 t_iClause 5 [], rdI br sl p] S w' := hI.last 0 rfl
  refine ⟨fun a b w' => ∃ (j p1 : Nat) (S1 : Store) (css : List (List Value)) (q1 : List C), a = .int .i64 (j : Int) ∧ j ≤ q.length ∧ q1.length = j ∧ p1 ≤ p + 600 * j ∧ Ext w.heap.size [br] S S1 ∧ Rows 5 (RdC S1) css q1 ∧ (∀ c ∈ q1, wC c ≤ m + 700) ∧ Inv w [br] [rowG b t_iClause 5 css, rdI br sl p1] S1 w',
    fun a _ _ => q.length - (intOf a).toNat, ⟨0, p, S, [], [], rfl, Nat.zero_le _, rfl, by omega, Ext.refl _ _ _, Rows.nil _ _, by simp, hI⟩, ?_⟩
  intro t6 _ _ t5 _ _ _ _ _ _ _ _ _ _ _ _ _ w'
  rintro ⟨j, p1, S1, css, q1, rfl, hj, hq1, hp1, hE1, hR, hqw, hI⟩
  have hcl := hR.hc
  have h' := h.monoC hE1.1
  refine r_lenSl h' sl_SiClause ?_
  refine r_lss ?_
  refine condP (fun hjl => ?_) (fun hjl => ?_)
  · have hj' : j < q.length := by omega
    refine r_elem hI h' sl_SiClause ag_iClause hj' (fun _ _ => RdC.length) fun cs hcs => ?_
    have hwc := hq.2 _ (List.getElem_mem hj')
    refine Run.callL fn_s_l4Mutate nm_s_l4Mutate hI (l4Mutate_calls (p := p1) (hrd.monoU hE1.1) hcs (by omega) (by omega)) rfl fun v' I' S2 w' => ?_
    rintro ⟨p2, hp2, rfl, ds, d, rfl, hds, hwd⟩ hE2 hI
    refine r_append1 (css := css) hI 0 _ mk_SiClause (by omega) (by omega) rfl hds.length hds.one (by omega) (by omega) fun v' w' hI => ?_
    refine r_add (by omega) ?_
    have hpn : p2 ≤ p + 600 * (j + 1) := Nat.le_trans hp2 (Nat.le_trans (Nat.add_le_add_right hp1 600) (by rw [Nat.mul_add, Nat.add_assoc]; exact Nat.le_refl _))
    exact ⟨⟨j + 1, p2, S2, _, q1 ++ [d], rfl, hj', by simp only [List.length_append, hq1, List.length_cons, List.length_nil, Nat.zero_add], hpn, hE1.trans hE2, (hR.monoR fun _ _ h => RdC.mono hE2.1 h).snoc hds hds.length, fun c hc => (List.mem_append.1 hc).elim (hqw c) (fun hc => by simp only [List.mem_singleton] at hc; subst hc; omega), hI⟩,
      by simp only [intOf, Int.toNat_natCast]; omega⟩
  refine ⟨fun v w' => ∃ (p1 : Nat) (S1 : Store) (q1 : List C), p1 ≤ p + 20000 ∧ Ext w.heap.size [br] S S1 ∧ RdSl S1 5 (RdC S1) v q1 ∧ Light 30 (m + 700) q1 ∧ Inv w [br] [rdI br sl p1] S1 w', ?_, ?_⟩
  · refine Run.callL fn_s_l18Rd_pick nm_s_l18Rd_pick hI (pick_calls (n := 30) (hrd.monoU hE1.1) (by omega) (by omega)) rfl fun v' I' S1 w' => ?_
    rintro ⟨rfl, rfl, kk, hkk, rfl⟩ _ hI
    have hI : Inv w [br] [rowG t5 t_iClause 5 css, rdI br sl (p1 + 1)] S1 w' := hI
    refine r_eql ?_
    refine condP (fun _ => ?_) (fun _ => ?_)
    · refine ⟨fun b w' => ∃ (S2 : Store) (css : List (List Value)) (q1 : List C), q1.length ≤ 30 ∧ Ext w.heap.size [br] S S2 ∧ Rows 5 (RdC S2) css q1 ∧ (∀ c ∈ q1, wC c ≤ m + 700) ∧ Inv w [br] [rowG b t_iClause 5 css, rdI br sl (p1 + 1)] S2 w',
        fun b _ => 30 - lenOf b, ⟨S1, css, q1, by omega, hE1, hR, hqw, hI⟩, ?_⟩
      intro t5 _ _ _ _ _ _ _ _ w'
      rintro ⟨S2, css, q1, hq1, hE2, hR, hqw, hI⟩
      have hlen : ∀ {w' : World} {S2 : Store} {t5 : Value} {css : List (List Value)} {q1 : List C}, Inv w [br] [rowG t5 t_iClause 5 css, rdI br sl (p1 + 1)] S2 w' → Rows 5 (RdC S2) css q1 → ∃ a m, t5 = .slice a q1.length m := by
        intro w' S2 t5 css q1 hI hR
        obtain ⟨_, _, _, a, m, e, _⟩ := pub_prog hI hR
        exact ⟨a, m, e⟩
      obtain ⟨a1, m1, rfl⟩ := hlen hI hR
      have hcl := hR.hc
      refine r_len sl_SiClause ?_
      refine r_leq ?_
      refine condP (fun hle => ?_) (fun hle => ?_)
      · refine Run.call0E fn_s_l1Struct nm_s_l1Struct hI (l1Struct_pub ⟨#[122]⟩ (by decide) (rd_none S2) (by simp)) fun v' I' S3 w' => ?_
        rintro ⟨rfl, cs3, rfl, hcs3⟩ hE3 hI
        obtain ⟨k3, rfl, _, _, _, a3, q3, rfl, _⟩ := RdT.iff.1 hcs3
        refine r_buildHead ?_
        have hds : RdC S3 [.int .i64 3, .int .i64 0, .string ⟨#[122]⟩, .slice a3 0 q3, .slice none 0 0] ⟨.mk 3 0 ⟨#[122]⟩ [], []⟩ := ⟨[.int .i64 3, .int .i64 0, .string ⟨#[122]⟩, .slice a3 0 q3], _, rfl, hcs3, rd_none S3⟩
        refine r_append1 (css := css) hI 0 [.int .i64 3, .int .i64 0, .string ⟨#[122]⟩, .slice a3 0 q3, .slice none 0 0] mk_SiClause (by omega) (by omega) rfl rfl hds.one (by omega) (by omega) fun v' w' hI => ?_
        have hI : Inv w [br] [rowG v' t_iClause 5 (css ++ [_]), rdI br sl (p1 + 1)] S3 w' := hI
        have hR2 := (hR.monoR fun _ _ h => RdC.mono hE3.1 h).snoc hds rfl
        obtain ⟨a2, m2, rfl⟩ := hlen hI hR2
        refine ⟨⟨S3, _, _, by rw [List.length_append]; simp only [List.length_cons, List.length_nil]; omega, hE2.trans hE3, hR2, fun c hc => (List.mem_append.1 hc).elim (hqw c) (fun hc => by simp only [List.mem_singleton] at hc; subst hc; rw [zC_wt]; omega), hI⟩, ?_⟩
        simp only [lenOf, List.length_append, List.length_cons, List.length_nil]
        omega
      · obtain ⟨S3, hE3, hI, hr⟩ := pub_prog hI hR
        exact ⟨_, S3, q1, by omega, hE2.trans hE3, hr, ⟨hq1, hqw⟩, hI⟩
    · obtain ⟨S3, hE3, hI, hr⟩ := pub_prog hI hR
      refine r_eql ?_
      refine condP (fun _ => ?_) (fun _ => ?_)
      · refine r_sliceFrom (l := 1) sl_SiClause hr (by omega) fun u hu => ?_
        exact ⟨_, S3, _, by omega, hE1.trans hE3, hu, ⟨by rw [List.length_drop]; omega, fun c hc => hqw c (List.mem_of_mem_drop hc)⟩, hI⟩
      · exact ⟨_, S3, q1, by omega, hE1.trans hE3, hr, ⟨by omega, hqw⟩, hI⟩
  intro _ _ _ _ t5 _ _ _ _ _ _ _ _ _ _ _ _ w'
  rintro ⟨p2, S2, q2, hp2, hE2, hr, hl, hI⟩
  exact ⟨_, _, S2, rfl, hI, hE2, p2, hp2, rfl, q2, hr, hl⟩
end
end Go.Proofs.YtmnnpgdeecnfpaaGreat
