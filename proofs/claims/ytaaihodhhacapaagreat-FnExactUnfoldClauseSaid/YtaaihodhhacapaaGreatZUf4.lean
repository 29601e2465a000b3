/- spec: walks, occurrence, unification. -/
import Derived.Test.YtaaihodhhacapaaGreatZUf3
import Derived.Test.YtaaihodhhacapaaGreatZUf1
import Derived.Test.YtaaihodhhacapaaGreatZUf0
namespace Go.Proofs.YtaaihodhhacapaaGreat
open Go Go.RowKit
/- bindings as a row of terms -/
def KnU (S : Store) (c : Array Value) (st : Known) : Prop := st.length * 4 ≤ c.size ∧ ∀ i (h : i < st.length), (st[i] = none → cellsAt c (i * 4) 4 = noCells) ∧ (∀ t, st[i] = some t → RdT S (cellsAt c (i * 4) 4) t)
abbrev kvU (kb N kp : Nat) : Value := .slice (some ⟨kb, 0, none⟩) N kp
theorem KnU.set {S : Store} {c : Array Value} {st : Known} (h : KnU S c st) {n : Nat} (hn : n < st.length) {cs : List Value} {u : T} (hu : RdT S cs u) : KnU S (putCells c (n * 4) cs) (st.set n (some u)) := by
  have hlc := hu.length
  have h1 := h.1
  have hs : st.length * 4 ≤ (putCells c (n * 4) cs).size := by rw [putCells_size _ _ _ (by omega)]; exact h1
  refine ⟨by rw [List.length_set]; exact hs, fun i hi => ?_⟩
  rw [List.length_set] at hi
  by_cases e : n = i
  · subst e
    rw [List.getElem_set_self]
    refine ⟨fun h => (by cases h), fun t ht => ?_⟩
    simp only [Option.some.injEq] at ht
    subst ht
    have := cellsAt_put_self (c := c) (o := n * 4) (vs := cs) (by omega)
    rw [hlc] at this
    rw [this]
    exact hu
  · rw [List.getElem_set_ne e, cellsAt_put_ne (by omega) (by omega)]
    exact h.2 i hi
theorem KnU.mono {S S' : Store} {c : Array Value} {st : Known} (h : KnU S c st) (hs : Sle S S') : KnU S' c st := ⟨h.1, fun i hi => ⟨(h.2 i hi).1, fun t ht => ((h.2 i hi).2 t ht).mono hs⟩⟩
def rankW (b : Nat) (r : Nat → Nat) (st : Known) (w : World) : Nat :=
  match w.heap[b]? with
  | some (Obj.cells c _ _) => (match c[0]?, c[1]? with
    | some (Value.int _ k), some (Value.int _ n) => if (look st (.mk k n emptyB [])).isSome = true then r n.toNat + 1 else 0
    | _, _ => 0)
  | _ => 0
theorem rankW_eq {w0 w : World} {X : List Nat} {L : List Item} {S S0 : Store} {cs : List Value} {t : T} {E : TypeId} {b i : Nat} (hI : Inv w0 X L S w) (hi : L[i]? = some (.blk b (.cells cs.toArray E))) (h : RdT S0 cs t) (r : Nat → Nat) (st : Known) :
    rankW b r st w = if (look st t).isSome = true then r t.n.toNat + 1 else 0 := by
  obtain ⟨kv, rfl, _⟩ := RdT.iff.1 h
  have hb : w.heap[b]? = _ := hI.its _ (List.mem_of_getElem? hi)
  unfold rankW
  rw [hb]
  obtain ⟨k, n, s, ks⟩ := t
  rfl
section
attribute [local irreducible] Run CondV GuardV LoadV
theorem l3Walk_calls {N : Nat} {st : Known} (hg : Good N st) {t v : T} (hw : WalkR st t v) (ht : okU N t) {S : Store} {cs : List Value} {kb kp : Nat} {kc : Array Value} (h : RdT S cs t) (hk : KnU S kc st) :
    Tri Tryz.prog n_s_l3Walk [.agg cs.toArray, kvU kb N kp] [.blk kb (.cells kc t_iTerm)] S fun r I' S' => S' = S ∧ I' = [.blk kb (.cells kc t_iTerm)] ∧ ∃ cs', r = .agg cs'.toArray ∧ RdT S cs' v := by
  intro w hI
  obtain ⟨X, hX⟩ : ∃ X, X = feet [Item.blk kb (.cells kc t_iTerm)] := ⟨_, rfl⟩
  rw [← hX] at hI ⊢
  have hlN := hg.len
  obtain ⟨r, hr⟩ := hg.rk
  refine calls_s_l3Walk ?_
  unfold sh_s_l3Walk
  refine r_box hI fun b2 w' hI => ?_
  refine r_alloc hI zo_iTerm fun b4 w' hI => ?_
  have hI : Inv w X [.blk kb (.cells kc t_iTerm), .blk b2 (.cells cs.toArray t_iTerm), .blk b4 (.cells #[.int .i64 0, .int .i64 0, .string ⟨#[]⟩, .slice none 0 0] t_iTerm)] S w' := hI
  refine ⟨fun w' => ∃ (t' : T) (cs' : List Value), WalkR st t' v ∧ okU N t' ∧ RdT S cs' t' ∧ Inv w X [.blk kb (.cells kc t_iTerm), .blk b2 (.cells cs'.toArray t_iTerm), .blk b4 (.cells #[.int .i64 0, .int .i64 0, .string ⟨#[]⟩, .slice none 0 0] t_iTerm)] S w',
    fun w' => rankW b2 r st w', ⟨t, cs, hw, ht, h, hI⟩, ?_⟩
  intro _ _ _ _ _ _ _ _ _ _ _ _ _ _ _ _ _ _ _ _ _ _ _ _ w'
  rintro ⟨t', cs', hw', ht', hcs', hI⟩
  have hrank := rankW_eq hI (i := 1) rfl hcs' r st
  have hcs0 := hcs'
  obtain ⟨kv, rfl, _⟩ := RdT.iff.1 hcs'
  refine ⟨fun q w' => q = .bool (look st t').isSome ∧ Inv w X [.blk kb (.cells kc t_iTerm), .blk b2 (.cells #[.int .i64 t'.kind, .int .i64 t'.n, .string t'.name, kv] t_iTerm), .blk b4 (.cells #[.int .i64 0, .int .i64 0, .string ⟨#[]⟩, .slice none 0 0] t_iTerm)] S w', ?_, ?_⟩
  · refine r_fieldL hI 1 rfl fo_iTerm_0 sc_int rfl ?_
    refine r_eql ?_
    by_cases hk1 : t'.kind = 1
    · rw [decide_eq_true hk1]
      obtain ⟨hn0, hnN, _⟩ := ht'.var hk1
      obtain ⟨j, hj⟩ : ∃ j : Nat, t'.n = j := ⟨t'.n.toNat, by omega⟩
      have hjN : j < N := by omega
      have hjs : j < st.length := by omega
      repeat (first | refine guard_true ?_ | refine guard_ne (by decide) ?_ | refine guard_undef ?_ | refine r_pickT ?_ | refine r_pickF ?_)
      refine r_fieldL hI 1 rfl fo_iTerm_1 sc_int rfl ?_
      refine r_len sl_SiTerm ?_
      refine r_lss ?_
      rw [decide_eq_true hnN]
      repeat (first | refine guard_true ?_ | refine guard_ne (by decide) ?_ | refine guard_undef ?_ | refine r_pickT ?_ | refine r_pickF ?_)
      refine r_fieldL hI 1 rfl fo_iTerm_1 sc_int rfl ?_
      rw [hj]
      refine r_indexAddr sl_SiTerm hjN ?_
      refine r_field fo_iTerm_0 ?_
      rw [Nat.zero_add, Nat.add_zero]
      obtain ⟨hno, hso⟩ := hk.2 j hjs
      rw [hj] at hI
      have hlk : look st t' = st[j] := by
        rw [look, if_pos hk1, hj, Int.toNat_natCast, List.getElem?_eq_getElem hjs]; rfl
      rw [hlk]
      cases hst2 : st[j] with
      | none =>
        have hcell := hno hst2
        refine r_loadL hI 0 sc_int rfl (by have := cellsAt_get hcell 0 _ rfl; exact this) ?_
        refine r_neq ?_
        repeat (first | refine guard_true ?_ | refine guard_ne (by decide) ?_ | refine guard_undef ?_ | refine r_pickT ?_ | refine r_pickF ?_)
        refine ⟨by simp, hI⟩
      | some t0 =>
        have hR := hso t0 hst2
        have hk0 : t0.kind ≠ 0 := (hg.ok t0 (by rw [← hst2]; exact List.getElem_mem hjs)).kind
        obtain ⟨kv0', hcell, _, _, _, _⟩ := RdT.iff.1 hR
        refine r_loadL hI 0 sc_int rfl (by have := cellsAt_get hcell 0 _ rfl; exact this) ?_
        refine r_neq ?_
        rw [decide_eq_false hk0]
        repeat (first | refine guard_true ?_ | refine guard_ne (by decide) ?_ | refine guard_undef ?_ | refine r_pickT ?_ | refine r_pickF ?_)
        refine ⟨rfl, hI⟩
    · rw [decide_eq_false hk1]
      repeat (first | refine guard_true ?_ | refine guard_ne (by decide) ?_ | refine guard_undef ?_ | refine r_pickT ?_ | refine r_pickF ?_)
      refine ⟨?_, hI⟩
      rw [look, if_neg hk1]; rfl
  intro q _ _ _ _ _ _ _ _ _ _ _ _ _ _ _ _ _ _ w'
  rintro ⟨rfl, hI⟩
  refine condV (fun hb => ?_) (fun hb => ?_)
  · obtain ⟨u, hl⟩ := Option.isSome_iff_exists.1 hb
    obtain ⟨hk1, hs⟩ := look_some.1 hl
    obtain ⟨hn0, hnN, _⟩ := ht'.var hk1
    obtain ⟨j, hj⟩ : ∃ j : Nat, t'.n = j := ⟨t'.n.toNat, by omega⟩
    have hjN : j < N := by omega
    have hjs : j < st.length := by omega
    rw [hj, Int.toNat_natCast] at hs
    have hst2 : st[j] = some u := by rw [List.getElem?_eq_getElem hjs, Option.some.injEq] at hs; exact hs
    have hR := (hk.2 j hjs).2 u hst2
    have hwu : WalkR st u v := by
      cases hw' with
      | stop h0 => rw [hl] at h0; cases h0
      | step h1 h2 => rw [hl, Option.some.injEq] at h1; rw [h1]; exact h2
    have hu := (hg.look_ok hl).1
    refine r_fieldL hI 1 rfl fo_iTerm_1 sc_int rfl ?_
    rw [hj]
    refine r_indexAddr sl_SiTerm hjN ?_
    rw [Nat.zero_add]
    refine r_loadLA hI 0 (cellsAt kc (j * 4) 4) ag_iTerm rfl hR.length (fun i v hi => cellsAt_get rfl i v hi) ?_
    refine r_storeW hI 1 rfl ag_iTerm (by simpa using hR.length) rfl (by simpa using hR.one) fun w' hI => ?_
    have hI : Inv w X [.blk kb (.cells kc t_iTerm), .blk b2 (.cells (cellsAt kc (j * 4) 4).toArray t_iTerm), .blk b4 (.cells #[.int .i64 0, .int .i64 0, .string ⟨#[]⟩, .slice none 0 0] t_iTerm)] S w' := hI
    refine ⟨⟨u, _, hwu, hu, hR, hI⟩, ?_⟩
    have hrank2 := rankW_eq hI (i := 1) rfl hR r st
    show rankW b2 r st w' < rankW b2 r st _
    rw [hrank, hrank2, if_pos hb, hj, Int.toNat_natCast]
    split
    · rename_i hl2
      obtain ⟨u2, hl2⟩ := Option.isSome_iff_exists.1 hl2
      have := hr j u hs u.n.toNat (by rw [vT_var (look_some.1 hl2).1]; exact List.mem_singleton.2 rfl)
      omega
    · omega
  · have hv : v = t' := by
      cases hw' with
      | stop _ => rfl
      | step h1 _ => rw [h1] at hb; cases hb
    subst hv
    refine r_loadW hI 1 ag_iTerm rfl rfl ?_
    refine r_storeW hI 2 rfl ag_iTerm rfl rfl (by simpa using hcs0.one) fun w' hI => ?_
    refine loadV_W hI 2 ag_iTerm rfl rfl ?_
    exact ⟨_, _, _, rfl, hI.pick [true, false, false], Ext.refl _ _ _, rfl, rfl, _, rfl, hcs0⟩
end
/- the variables of a term in a list of numbers -/
theorem addI_mem' (l : List Int) (n x : Int) : x ∈ addI l n ↔ x ∈ l ∨ x = n := by
  unfold addI
  split
  · rename_i h
    rw [hasI_mem] at h
    constructor
    · exact .inl
    · rintro (h1 | rfl)
      · exact h1
      · exact h
  · simp
mutual
theorem svarsT_mem {N : Nat} : ∀ (t : T) (l : List Int), okU N t → ∀ x, x ∈ svarsT t l ↔ x ∈ l ∨ ∃ m ∈ vT t, x = (m : Int)
  | .mk k n s ks, l, h, x => by
    rw [okU] at h
    rw [svarsT, vT]
    by_cases hk : k = 1
    · rw [if_pos hk, if_pos hk, addI_mem']
      have := (h.2.1 hk).1
      constructor
      · rintro (h1 | h1)
        · exact .inl h1
        · exact .inr ⟨n.toNat, List.mem_singleton.2 rfl, by omega⟩
      · rintro (h1 | ⟨m, hm, e⟩)
        · exact .inl h1
        · rw [List.mem_singleton] at hm
          exact .inr (by omega)
    · rw [if_neg hk, if_neg hk]
      exact svarsL_mem ks l h.2.2.1 x
theorem svarsL_mem {N : Nat} : ∀ (ts : List T) (l : List Int), okUL N ts → ∀ x, x ∈ svarsL ts l ↔ x ∈ l ∨ ∃ m ∈ vTL ts, x = (m : Int)
  | [], l, _, x => by simp [svarsL, vTL]
  | t :: ts, l, h, x => by
    rw [okUL] at h
    rw [svarsL, vTL, svarsL_mem ts _ h.2, svarsT_mem t l h.1]
    simp only [List.mem_append]
    constructor
    · rintro ((h | ⟨m, h, e⟩) | ⟨m, h, e⟩)
      · exact .inl h
      · exact .inr ⟨m, .inl h, e⟩
      · exact .inr ⟨m, .inr h, e⟩
    · rintro (h | ⟨m, h | h, e⟩)
      · exact .inl (.inl h)
      · exact .inl (.inr ⟨m, h, e⟩)
      · exact .inr ⟨m, h, e⟩
end
mutual
theorem svarsT_nd : ∀ (t : T) (l : List Int), l.Nodup → (svarsT t l).Nodup
  | .mk k n s ks, l, h => by
    rw [svarsT]
    split
    · exact addI_nodup n h
    · exact svarsL_nd ks l h
theorem svarsL_nd : ∀ (ts : List T) (l : List Int), l.Nodup → (svarsL ts l).Nodup
  | [], l, h => by rw [svarsL]; exact h
  | t :: ts, l, h => by rw [svarsL]; exact svarsL_nd ts _ (svarsT_nd t l h)
end
theorem addI_pre (l : List Int) (n : Int) : l <+: addI l n := by
  unfold addI
  split
  · exact List.prefix_refl _
  · exact List.prefix_append _ _
mutual
theorem svarsT_pre : ∀ (t : T) (l : List Int), l <+: svarsT t l
  | .mk k n s ks, l => by
    rw [svarsT]
    split
    · exact addI_pre l n
    · exact svarsL_pre ks l
theorem svarsL_pre : ∀ (ts : List T) (l : List Int), l <+: svarsL ts l
  | [], l => by rw [svarsL]; exact List.prefix_refl _
  | t :: ts, l => by
    rw [svarsL]
    exact (svarsT_pre t l).trans (svarsL_pre ts _)
end
theorem cntT_wT' (t : T) : cntT t ≤ 1 + (wT t : Int) := by
  have := cnt_wL [t]
  simp only [cntL, wL, List.length_cons, List.length_nil] at this
  omega
theorem rng_len : ∀ (N : Nat) (l : List Int), l.Nodup → (∀ x ∈ l, 0 ≤ x ∧ x < N) → l.length ≤ N := by
  intro N l hd h
  have hsub : ∀ x ∈ l, x ∈ (List.range N).map (fun i : Nat => (i : Int)) := fun x hx => by
    obtain ⟨h1, h2⟩ := h x hx
    exact List.mem_map.2 ⟨x.toNat, List.mem_range.2 (by omega), by omega⟩
  have := List.Nodup.length_le_of_subset hd hsub
  simpa using this
section
attribute [local irreducible] Run CondV GuardV LoadV
open Classical in
theorem l3Within_calls {N : Nat} (hN : N ≤ 1000000) {st : Known} (hg : Good N st) {t : T} (ht : okU N t) (hwt : wT t ≤ 1048576) (n : Int) (hn0 : 0 ≤ n) {S : Store} {cs : List Value} {kb kp : Nat} {kc : Array Value} (h : RdT S cs t) (hk : KnU S kc st) :
    Tri Tryz.prog n_s_l3Within [.int .i64 n, .agg cs.toArray, kvU kb N kp] [.blk kb (.cells kc t_iTerm)] S fun r I' S' => S' = S ∧ I' = [.blk kb (.cells kc t_iTerm)] ∧ r = .bool (decide (OccP st n.toNat t)) := by
  intro w hI
  obtain ⟨X, hX⟩ : ∃ X, X = feet [Item.blk kb (.cells kc t_iTerm)] := ⟨_, rfl⟩
  rw [← hX] at hI ⊢
  have hlN := hg.len
  have hlc := h.length
  have hct := cntT_wT' t
  refine calls_s_l3Within ?_
  unfold sh_s_l3Within
  refine r_box hI fun b4 w' hI => ?_
  have hI : Inv w X [.blk kb (.cells kc t_iTerm), .blk b4 (.cells cs.toArray t_iTerm)] S w' := hI
  refine r_loadW hI 1 ag_iTerm rfl (by simpa using hlc) ?_
  have hI : Inv w X [.blk kb (.cells kc t_iTerm)] S w' := hI.pick [true, false]
  have hI := hI.rowNil t_int 1
  refine Run.call (A := [_]) fn_s_l1Vars nm_s_l1Vars hI (l1Vars_calls t S cs (.slice none 0 0) [] h (by simp only [List.length_nil]; omega)) fun v' I' S' w' => ?_
  rintro ⟨rfl, eS⟩ _ hI
  rw [eS] at hI
  clear eS
  refine ⟨fun i t7 w' => ∃ (j : Nat) (ws : List Int), i = .int .i64 j ∧ j ≤ ws.length ∧ ws.Nodup ∧ (∀ x ∈ ws, 0 ≤ x ∧ x < N) ∧ (∀ x ∈ ws, ∃ m ∈ vT t, Rch st m x.toNat) ∧ (∀ m ∈ vT t, (m : Int) ∈ ws) ∧
      (∀ k (hk : k < ws.length), k < j → ws[k] ≠ n ∧ ∀ u, st[ws[k].toNat]? = some (some u) → ∀ m ∈ vT u, (m : Int) ∈ ws) ∧ Inv w X [.blk kb (.cells kc t_iTerm), rowI t7 ws] S w',
    fun i _ _ => N - (intOf i).toNat, ⟨0, _, rfl, Nat.zero_le _, svarsT_nd t [] List.nodup_nil, fun x hx => ?_, fun x hx => ?_, fun m hm => ?_, fun k _ hk0 => absurd hk0 (by omega), hI⟩, ?_⟩
  · rcases (svarsT_mem t [] ht x).1 hx with hx | ⟨m, hm, rfl⟩
    · cases hx
    · have := vT_lt t ht m hm
      omega
  · rcases (svarsT_mem t [] ht x).1 hx with hx | ⟨m, hm, rfl⟩
    · cases hx
    · exact ⟨m, hm, by rw [Int.toNat_natCast]; exact .refl m⟩
  · exact (svarsT_mem t [] ht _).2 (.inr ⟨m, hm, rfl⟩)
  intro t8 _ _ t7 _ _ _ _ _ _ _ _ _ _ _ _ _ _ _ _ _ _ _ _ _ _ _ _ _ _ _ _ _ _ _ _ _ _ _ _ _ _ w'
  rintro ⟨j, ws, rfl, hj, hnd, hrng, hreach, hroot, hdone, hI⟩
  have hwl := rng_len N ws hnd hrng
  obtain ⟨S1, hle, hrd, hI1, hback⟩ := Inv.lend (A := [_]) hI
  have hrd := hrd.ints
  refine r_lenSl hrd sl_Sint ?_
  refine r_lss ?_
  refine condP (fun hji => ?_) (fun hji => ?_)
  · have hj' : j < ws.length := by omega
    obtain ⟨hx0, hxN⟩ := hrng _ (List.getElem_mem hj')
    obtain ⟨x, hx⟩ : ∃ x : Nat, ws[j] = x := ⟨ws[j].toNat, by omega⟩
    have hxs : x < st.length := by omega
    refine ⟨fun t7' w' => ∃ ws' : List Int, ws'.Nodup ∧ (∀ x ∈ ws', 0 ≤ x ∧ x < N) ∧ (∀ x ∈ ws', ∃ m ∈ vT t, Rch st m x.toNat) ∧ (∀ y ∈ ws, y ∈ ws') ∧ ws <+: ws' ∧
      ws[j] ≠ n ∧ (∀ u, st[x]? = some (some u) → ∀ m ∈ vT u, (m : Int) ∈ ws') ∧ Inv w X [.blk kb (.cells kc t_iTerm), rowI t7' ws'] S w', ?_, ?_⟩
    · refine r_elem1 hI1 hrd sl_Sint sc_int hj' (fun cs hcs => hcs) ?_
      refine r_eql ?_
      refine condP (fun he => ?_) (fun he => ?_)
      · have hocc : OccP st n.toNat t := by
          obtain ⟨m, hm, hr⟩ := hreach _ (List.getElem_mem hj')
          rw [he] at hr
          exact ⟨m, hm, hr⟩
        have hI := hback _ _ hI1
        refine ⟨_, _, _, rfl, hI.pick [true, false], Ext.refl _ _ _, rfl, rfl, ?_⟩
        rw [decide_eq_true hocc]
      · refine ⟨fun q w' => q = .bool (decide (∃ u, st[x]? = some (some u))) ∧ Inv w X [.blk kb (.cells kc t_iTerm)] S1 w', ?_, ?_⟩
        · refine r_elem1 hI1 hrd sl_Sint sc_int hj' (fun cs hcs => hcs) ?_
          refine r_len sl_SiTerm ?_
          refine r_lss ?_
          rw [decide_eq_true hxN]
          repeat (first | refine guard_true ?_ | refine guard_ne (by decide) ?_ | refine guard_undef ?_ | refine r_pickT ?_ | refine r_pickF ?_)
          refine r_elem1 hI1 hrd sl_Sint sc_int hj' (fun cs hcs => hcs) ?_
          rw [hx]
          refine r_indexAddr sl_SiTerm (by omega) ?_
          refine r_field fo_iTerm_0 ?_
          rw [Nat.zero_add, Nat.add_zero]
          obtain ⟨hno, hso⟩ := hk.2 x hxs
          cases hst2 : st[x] with
          | none =>
            have hcell := hno hst2
            refine r_loadL hI1 0 sc_int rfl (by have := cellsAt_get hcell 0 _ rfl; exact this) ?_
            refine r_neq ?_
            repeat (first | refine guard_true ?_ | refine guard_ne (by decide) ?_ | refine guard_undef ?_ | refine r_pickT ?_ | refine r_pickF ?_)
            refine ⟨?_, hI1⟩
            rw [decide_eq_false (show ¬ ∃ u, st[x]? = some (some u) from fun ⟨u, hu⟩ => by rw [List.getElem?_eq_getElem hxs, hst2] at hu; cases hu)]
            simp
          | some t0 =>
            have hR := hso t0 hst2
            have hk0 : t0.kind ≠ 0 := (hg.ok t0 (by rw [← hst2]; exact List.getElem_mem hxs)).kind
            obtain ⟨kv0', hcell, _, _, _, _⟩ := RdT.iff.1 hR
            refine r_loadL hI1 0 sc_int rfl (by have := cellsAt_get hcell 0 _ rfl; exact this) ?_
            refine r_neq ?_
            rw [decide_eq_false hk0]
            repeat (first | refine guard_true ?_ | refine guard_ne (by decide) ?_ | refine guard_undef ?_ | refine r_pickT ?_ | refine r_pickF ?_)
            refine ⟨?_, hI1⟩
            rw [decide_eq_true (show ∃ u, st[x]? = some (some u) from ⟨t0, by rw [List.getElem?_eq_getElem hxs, hst2]⟩)]
            rfl
        intro q _ _ _ _ _ _ _ _ _ _ _ _ _ _ _ _ _ w'
        rintro ⟨rfl, hI1⟩
        refine condP (fun hq => ?_) (fun hq => ?_)
        · obtain ⟨u, hu⟩ := hq
          have hst2 : st[x] = some u := by rw [List.getElem?_eq_getElem hxs, Option.some.injEq] at hu; exact hu
          have hR := (hk.2 x hxs).2 u hst2
          have hum := List.mem_of_getElem? hu
          have hou := hg.ok u hum
          have hwu := hg.w u hum
          have hcu := cntT_wT' u
          refine r_elem1 hI1 hrd sl_Sint sc_int hj' (fun cs hcs => hcs) ?_
          rw [hx]
          refine r_indexAddr sl_SiTerm (by omega) ?_
          rw [Nat.zero_add]
          refine r_loadLA hI1 0 (cellsAt kc (x * 4) 4) ag_iTerm rfl hR.length (fun i v hi => cellsAt_get rfl i v hi) ?_
          have hI := hback _ _ hI1
          refine Run.call (A := [_]) fn_s_l1Vars nm_s_l1Vars hI (l1Vars_calls u S _ t7 ws hR (by omega)) fun v' I' S' w' => ?_
          rintro ⟨rfl, eS⟩ _ hI
          rw [eS] at hI
          clear eS
          have hmem := svarsT_mem u ws hou
          refine ⟨_, svarsT_nd u ws hnd, fun y hy => ?_, fun y hy => ?_, fun y hy => (hmem y).2 (.inl hy), svarsT_pre u ws, by rw [← hx]; exact he, fun u' hu' m hm => ?_, hI⟩
          · rcases (hmem y).1 hy with hy | ⟨m, hm, rfl⟩
            · exact hrng y hy
            · have := vT_lt u hou m hm
              omega
          · rcases (hmem y).1 hy with hy | ⟨m, hm, rfl⟩
            · exact hreach y hy
            · obtain ⟨m0, hm0, hr0⟩ := hreach _ (List.getElem_mem hj')
              rw [hx, Int.toNat_natCast] at hr0
              exact ⟨m0, hm0, hr0.trans (.step hu hm (by rw [Int.toNat_natCast]; exact .refl m))⟩
          · rw [hu, Option.some.injEq, Option.some.injEq] at hu'
            subst hu'
            exact (hmem _).2 (.inr ⟨m, hm, rfl⟩)
        · have hI := hback _ _ hI1
          exact ⟨ws, hnd, hrng, hreach, fun y hy => hy, List.prefix_refl _, he, fun u hu => absurd ⟨u, hu⟩ hq, hI⟩
    intro t7' _ _ _ _ _ _ _ _ _ _ _ _ _ _ _ _ _ _ _ _ _ _ _ _ _ _ _ _ _ _ _ _ _ _ w'
    rintro ⟨ws', hnd', hrng', hreach', hsub, hpf, hne, hcl, hI⟩
    have hl' := hpf.length_le
    have hpre : ∀ k (hk : k < ws.length), ws'[k]'(by omega) = ws[k] := fun k hk => (hpf.getElem hk).symm
    refine r_add (by omega) ?_
    refine ⟨⟨j + 1, ws', rfl, by omega, hnd', hrng', hreach', fun m hm => hsub _ (hroot m hm), fun k hk' hkj => ?_, hI⟩, by simp [intOf]; omega⟩
    by_cases e : k = j
    · subst e
      have e1 := hpre k hj'
      rw [e1]
      refine ⟨hne, fun u hu => ?_⟩
      rw [hx, Int.toNat_natCast] at hu
      exact hcl u hu
    · have hkl : k < ws.length := by omega
      rw [hpre k hkl]
      obtain ⟨h1, h2⟩ := hdone k hkl (by omega)
      exact ⟨h1, fun u hu m hm => hsub _ (h2 u hu m hm)⟩
  · have hj2 : j = ws.length := by omega
    have hno : ¬ OccP st n.toNat t := by
      rintro ⟨m, hm, hr⟩
      have key : ∀ a c, Rch st a c → (a : Int) ∈ ws → (c : Int) ∈ ws := by
        intro a c hac
        induction hac with
        | refl => exact id
        | step h1 h2 _ ih =>
          intro ha
          obtain ⟨k, hk, e⟩ := List.mem_iff_getElem.1 ha
          refine ih ((hdone k hk (by omega)).2 _ ?_ _ h2)
          rw [e, Int.toNat_natCast]
          exact h1
      have h1 := key m _ hr (hroot m hm)
      obtain ⟨k, hk, e⟩ := List.mem_iff_getElem.1 h1
      exact (hdone k hk (by omega)).1 (by rw [e]; omega)
    have hI := hback _ _ hI1
    refine ⟨_, _, _, rfl, hI.pick [true, false], Ext.refl _ _ _, rfl, rfl, ?_⟩
    rw [decide_eq_false hno]
end

end Go.Proofs.YtaaihodhhacapaaGreat

/- spec.l3Unify. -/
namespace Go.Proofs.YtaaihodhhacapaaGreat
open Go Go.RowKit
/- the calls of a loop over two lists -/
inductive Chain (Call : Known → T → T → Bool → Known → Prop) : Known → List T → List T → Bool → Known → Prop
  | nil {st : Known} : Chain Call st [] [] true st
  | stop {st st' : Known} {a b : T} {xs ys : List T} : Call st a b false st' → Chain Call st (a :: xs) (b :: ys) false st'
  | go {st st1 st' : Known} {a b : T} {xs ys : List T} {r : Bool} : Call st a b true st1 → Chain Call st1 xs ys r st' → Chain Call st (a :: xs) (b :: ys) r st'
theorem Chain.head {Call : Known → T → T → Bool → Known → Prop} {st st' : Known} {a b : T} {xs ys : List T} {r : Bool} (h : Chain Call st (a :: xs) (b :: ys) r st') :
    ∃ r1 st1, Call st a b r1 st1 ∧ (r1 = false → r = false ∧ st' = st1) ∧ (r1 = true → Chain Call st1 xs ys r st') := by
  cases h with
  | stop h => exact ⟨false, _, h, fun _ => ⟨rfl, rfl⟩, fun e => (by cases e)⟩
  | go h h' => exact ⟨true, _, h, fun e => (by cases e), fun _ => h'⟩
theorem Chain.done {Call : Known → T → T → Bool → Known → Prop} {st st' : Known} {r : Bool} (h : Chain Call st [] [] r st') : r = true ∧ st' = st := by
  cases h
  exact ⟨rfl, rfl⟩
/- how a unification of walked terms ends -/
def Ends (Call : Known → T → T → Bool → Known → Prop) (st : Known) (a' b' : T) (r : Bool) (st' : Known) : Prop :=
  (a'.kind = 1 ∧ b'.kind = 1 ∧ a'.n = b'.n ∧ r = true ∧ st' = st) ∨
  (a'.kind = 1 ∧ ¬ (b'.kind = 1 ∧ a'.n = b'.n) ∧ ((¬ OccP st a'.n.toNat b' ∧ r = true ∧ st' = st.set a'.n.toNat (some b')) ∨ (OccP st a'.n.toNat b' ∧ r = false ∧ st' = st))) ∨
  (a'.kind ≠ 1 ∧ b'.kind = 1 ∧ ((¬ OccP st b'.n.toNat a' ∧ r = true ∧ st' = st.set b'.n.toNat (some a')) ∨ (OccP st b'.n.toNat a' ∧ r = false ∧ st' = st))) ∨
  (a'.kind ≠ 1 ∧ b'.kind ≠ 1 ∧ ((hdEq a' b' = false ∧ r = false ∧ st' = st) ∨ (hdEq a' b' = true ∧ Chain Call st a'.kids b'.kids r st')))
theorem Uni.calls {N : Nat} {Call : Known → T → T → Bool → Known → Prop} (hcall : ∀ st a b a' b' r st', Good N st → okJ N (.one a b) → WalkR st a a' → WalkR st b b' → Ends Call st a' b' r st' → Call st a b r st') {st st' : Known} {j : Job} {r : Bool} (hu : Uni st j r st') :
    Good N st → okJ N j → match j with
      | .one a b => Call st a b r st'
      | .list xs ys => Chain Call st xs ys r st' := by
  induction hu with
  | same h1 h2 h3 h4 h5 => exact fun hg hj => hcall _ _ _ _ _ _ _ hg hj h1 h2 (.inl ⟨h3, h4, h5, rfl, rfl⟩)
  | bindA h1 h2 h3 h4 h5 => exact fun hg hj => hcall _ _ _ _ _ _ _ hg hj h1 h2 (.inr (.inl ⟨h3, h4, .inl ⟨h5, rfl, rfl⟩⟩))
  | occA h1 h2 h3 h4 h5 => exact fun hg hj => hcall _ _ _ _ _ _ _ hg hj h1 h2 (.inr (.inl ⟨h3, h4, .inr ⟨h5, rfl, rfl⟩⟩))
  | bindB h1 h2 h3 h4 h5 => exact fun hg hj => hcall _ _ _ _ _ _ _ hg hj h1 h2 (.inr (.inr (.inl ⟨h3, h4, .inl ⟨h5, rfl, rfl⟩⟩)))
  | occB h1 h2 h3 h4 h5 => exact fun hg hj => hcall _ _ _ _ _ _ _ hg hj h1 h2 (.inr (.inr (.inl ⟨h3, h4, .inr ⟨h5, rfl, rfl⟩⟩)))
  | clash h1 h2 h3 h4 h5 => exact fun hg hj => hcall _ _ _ _ _ _ _ hg hj h1 h2 (.inr (.inr (.inr ⟨h3, h4, .inl ⟨h5, rfl, rfl⟩⟩)))
  | kids h1 h2 h3 h4 h5 _ ih =>
    exact fun hg hj => hcall _ _ _ _ _ _ _ hg hj h1 h2 (.inr (.inr (.inr ⟨h3, h4, .inr ⟨h5, ih hg ⟨kids_ok (walk_ok hg h1 hj.1), kids_ok (walk_ok hg h2 hj.2), hdEq_len h5⟩⟩⟩)))
  | nil => exact fun _ _ => .nil
  | stop _ ih => exact fun hg hj => .stop (ih hg ⟨hj.1 _ (List.mem_cons_self ..), hj.2.1 _ (List.mem_cons_self ..)⟩)
  | go h1 _ ih1 ih2 =>
    intro hg hj
    have hj1 : okJ N (.one _ _) := ⟨hj.1 _ (List.mem_cons_self ..), hj.2.1 _ (List.mem_cons_self ..)⟩
    exact .go (ih1 hg hj1) (ih2 (h1.good hg hj1).1 ⟨fun a ha => hj.1 a (List.mem_cons_of_mem _ ha), fun b hb => hj.2.1 b (List.mem_cons_of_mem _ hb), by have := hj.2.2; simpa using this⟩)
def UC (N kp : Nat) (st : Known) (a b : T) (r : Bool) (st' : Known) : Prop := ∀ (S : Store) (cs ds : List Value) (kb : Nat) (kc : Array Value), RdT S cs a → RdT S ds b → KnU S kc st →
  Tri Tryz.prog n_s_l3Unify [.agg cs.toArray, .agg ds.toArray, kvU kb N kp] [.blk kb (.cells kc t_iTerm)] S fun q I' S' => S' = S ∧ q = .bool r ∧ ∃ kc', I' = [.blk kb (.cells kc' t_iTerm)] ∧ KnU S kc' st'
section
attribute [local irreducible] Run CondV GuardV LoadV
set_option maxHeartbeats 1000000 in
/- the case that a nonvariable meets a variable is handed on, so it comes with a contract -/
theorem l3Unify_body {N kp : Nat} (hN : N ≤ 1000000) {st st' : Known} {a b a' b' : T} {r : Bool} (hg : Good N st) (hj : okJ N (.one a b)) (hwa : WalkR st a a') (hwb : WalkR st b b')
    (hsw : a'.kind ≠ 1 → b'.kind = 1 → UC N kp st b' a' r st') (he : Ends (UC N kp) st a' b' r st') : UC N kp st a b r st' := by
  intro S cs ds kb kc h h' hkc w hI
  have hlc := h.length
  have hld := h'.length
  have hoa := walk_ok hg hwa hj.1
  have hob := walk_ok hg hwb hj.2
  have hlN := hg.len
  obtain ⟨X, hX⟩ : ∃ X, X = feet [Item.blk kb (.cells kc t_iTerm)] := ⟨_, rfl⟩
  rw [← hX] at hI ⊢
  refine calls_s_l3Unify ?_
  unfold sh_s_l3Unify
  refine r_box hI fun b1 w' hI => ?_
  refine r_box hI fun b2 w' hI => ?_
  have hI : Inv w X ([.blk b1 (.cells cs.toArray t_iTerm), .blk b2 (.cells ds.toArray t_iTerm)] ++ [.blk kb (.cells kc t_iTerm)]) S w' := hI.perm (List.perm_append_comm (l₁ := [_, _]) (l₂ := [_]))
  refine r_loadW hI 0 ag_iTerm rfl (by simpa using hlc) ?_
  refine Run.call fn_s_l3Walk nm_s_l3Walk hI (l3Walk_calls hg hwa hj.1.1 h hkc) fun v' I' S' w' => ?_
  rintro ⟨eS, rfl, cs', rfl, hcs'⟩ _ hI
  rw [eS] at hI
  clear eS
  refine r_storeW hI 0 rfl ag_iTerm (by simpa using hcs'.length) (by simpa using hlc) (by simpa using hcs'.one) fun w' hI => ?_
  have hI : Inv w X ([.blk b1 (.cells cs'.toArray t_iTerm), .blk b2 (.cells ds.toArray t_iTerm)] ++ [.blk kb (.cells kc t_iTerm)]) S w' := hI
  refine r_loadW hI 1 ag_iTerm rfl (by simpa using hld) ?_
  refine Run.call fn_s_l3Walk nm_s_l3Walk hI (l3Walk_calls hg hwb hj.2.1 h' hkc) fun v' I' S' w' => ?_
  rintro ⟨eS, rfl, ds', rfl, hds'⟩ _ hI
  rw [eS] at hI
  clear eS
  refine r_storeW hI 1 rfl ag_iTerm (by simpa using hds'.length) (by simpa using hld) (by simpa using hds'.one) fun w' hI => ?_
  have hI : Inv w X [.blk b1 (.cells cs'.toArray t_iTerm), .blk b2 (.cells ds'.toArray t_iTerm), .blk kb (.cells kc t_iTerm)] S w' := hI
  have hcs := hcs'
  have hds := hds'
  obtain ⟨kv, rfl, _, _, _, hks⟩ := RdT.iff.1 hcs'
  obtain ⟨kv', rfl, _, _, _, hks'⟩ := RdT.iff.1 hds'
  obtain ⟨k, n, s, ks⟩ := a'
  obtain ⟨k', n', s', ks'⟩ := b'
  unfold Ends at he
  simp only [T.name, T.kids, T.kind, T.n] at hks hks' hI he hsw ⊢
  have hlen := hks.le
  simp only [maxLen] at hlen
  refine ⟨fun q w' => q = .bool (decide (k = 1 ∧ k' = 1 ∧ n = n')) ∧ Inv w X [.blk b1 (.cells #[.int .i64 k, .int .i64 n, .string s, kv] t_iTerm), .blk b2 (.cells #[.int .i64 k', .int .i64 n', .string s', kv'] t_iTerm), .blk kb (.cells kc t_iTerm)] S w', ?_, ?_⟩
  · refine r_fieldL hI 0 rfl fo_iTerm_0 sc_int rfl ?_
    refine r_eql ?_
    by_cases e1 : k = 1
    · rw [decide_eq_true e1]
      repeat (first | refine guard_true ?_ | refine guard_ne (by decide) ?_ | refine guard_undef ?_ | refine r_pickT ?_ | refine r_pickF ?_)
      refine r_fieldL hI 1 rfl fo_iTerm_0 sc_int rfl ?_
      refine r_eql ?_
      by_cases e2 : k' = 1
      · rw [decide_eq_true e2]
        repeat (first | refine guard_true ?_ | refine guard_ne (by decide) ?_ | refine guard_undef ?_ | refine r_pickT ?_ | refine r_pickF ?_)
        refine r_fieldL hI 0 rfl fo_iTerm_1 sc_int rfl ?_
        refine r_fieldL hI 1 rfl fo_iTerm_1 sc_int rfl ?_
        refine r_eql ?_
        repeat (first | refine guard_true ?_ | refine guard_ne (by decide) ?_ | refine guard_undef ?_ | refine r_pickT ?_ | refine r_pickF ?_)
        exact ⟨by simp [e1, e2], hI⟩
      · rw [decide_eq_false e2]
        repeat (first | refine guard_true ?_ | refine guard_ne (by decide) ?_ | refine guard_undef ?_ | refine r_pickT ?_ | refine r_pickF ?_)
        exact ⟨by simp [e2], hI⟩
    · rw [decide_eq_false e1]
      repeat (first | refine guard_true ?_ | refine guard_ne (by decide) ?_ | refine guard_undef ?_ | refine r_pickT ?_ | refine r_pickF ?_)
      exact ⟨by simp [e1], hI⟩
  intro q _ _ _ _ _ _ _ _ _ _ _ _ _ _ w'
  rintro ⟨rfl, hI⟩
  refine condP (fun hsame => ?_) (fun hsame => ?_)
  · have : r = true ∧ st' = st := by
      rcases he with ⟨_, _, _, h1, h2⟩ | ⟨_, h1, _⟩ | ⟨h1, _, _⟩ | ⟨h1, _, _⟩
      · exact ⟨h1, h2⟩
      · exact absurd hsame.2 h1
      · exact absurd hsame.1 h1
      · exact absurd hsame.1 h1
    obtain ⟨rfl, rfl⟩ := this
    exact ⟨_, _, _, rfl, hI.pick [false, false, true], Ext.refl _ _ _, rfl, rfl, _, rfl, hkc⟩
  refine r_fieldL hI 0 rfl fo_iTerm_0 sc_int rfl ?_
  refine r_eql ?_
  refine condP (fun hk1 => ?_) (fun hk1 => ?_)
  · have hend : (¬ OccP st n.toNat (.mk k' n' s' ks') ∧ r = true ∧ st' = st.set n.toNat (some (.mk k' n' s' ks'))) ∨ (OccP st n.toNat (.mk k' n' s' ks') ∧ r = false ∧ st' = st) := by
      rcases he with ⟨h1, h2, h3, _⟩ | ⟨_, _, h1⟩ | ⟨h1, _, _⟩ | ⟨h1, _, _⟩
      · exact absurd ⟨h1, h2, h3⟩ hsame
      · exact h1
      · exact absurd hk1 h1
      · exact absurd hk1 h1
    obtain ⟨hn0, hnN, _⟩ := hoa.1.var hk1
    simp only [T.n] at hn0 hnN
    obtain ⟨j, rfl⟩ : ∃ j : Nat, n = j := ⟨n.toNat, by omega⟩
    refine r_fieldL hI 0 rfl fo_iTerm_1 sc_int rfl ?_
    refine r_loadW hI 1 ag_iTerm rfl rfl ?_
    refine Run.call (A := [_, _]) fn_s_l3Within nm_s_l3Within hI (l3Within_calls hN hg hob.1 hob.2 j (by omega) hds hkc) fun v' I' S' w' => ?_
    rintro ⟨eS, rfl, rfl⟩ _ hI
    rw [eS] at hI
    clear eS
    have hI : Inv w X [.blk b1 (.cells #[.int .i64 k, .int .i64 j, .string s, kv] t_iTerm), .blk b2 (.cells #[.int .i64 k', .int .i64 n', .string s', kv'] t_iTerm), .blk kb (.cells kc t_iTerm)] S w' := hI
    refine condV (fun hb => ?_) (fun hb => ?_)
    · have hocc : OccP st (Int.toNat j) (.mk k' n' s' ks') := @of_decide_eq_true _ (Classical.propDecidable _) hb
      have : r = false ∧ st' = st := by
        rcases hend with ⟨h1, _⟩ | ⟨_, h1⟩
        · exact absurd hocc h1
        · exact h1
      obtain ⟨rfl, rfl⟩ := this
      exact ⟨_, _, _, rfl, hI.pick [false, false, true], Ext.refl _ _ _, rfl, rfl, _, rfl, hkc⟩
    · have hocc : ¬ OccP st (Int.toNat j) (.mk k' n' s' ks') := @of_decide_eq_false _ (Classical.propDecidable _) hb
      have : r = true ∧ st' = st.set (Int.toNat j) (some (.mk k' n' s' ks')) := by
        rcases hend with ⟨_, h1⟩ | ⟨h1, _⟩
        · exact h1
        · exact absurd h1 hocc
      obtain ⟨rfl, rfl⟩ := this
      rw [Int.toNat_natCast]
      refine r_fieldL hI 0 rfl fo_iTerm_1 sc_int rfl ?_
      refine r_loadW hI 1 ag_iTerm rfl rfl ?_
      refine r_indexAddr sl_SiTerm (by omega) ?_
      rw [Nat.zero_add]
      refine r_storeB hI 2 rfl ag_iTerm rfl (by have := hkc.1; exact Nat.ble_eq_true_of_le (by omega)) hds.one fun w' hI => ?_
      exact ⟨_, _, _, rfl, hI.pick [false, false, true], Ext.refl _ _ _, rfl, rfl, _, rfl, hkc.set (by omega) hds⟩
  refine r_fieldL hI 1 rfl fo_iTerm_0 sc_int rfl ?_
  refine r_eql ?_
  refine condP (fun hk2 => ?_) (fun hk2 => ?_)
  · refine r_loadW hI 1 ag_iTerm rfl rfl ?_
    refine r_loadW hI 0 ag_iTerm rfl rfl ?_
    refine Run.call (A := [_, _]) fn_s_l3Unify nm_s_l3Unify hI (hsw hk1 hk2 S _ _ kb kc hds hcs hkc) fun v' I' S' w' => ?_
    rintro ⟨eS, rfl, kc', rfl, hkc'⟩ _ hI
    rw [eS] at hI
    clear eS
    exact ⟨_, _, _, rfl, hI.pick [false, false, true], Ext.refl _ _ _, rfl, rfl, _, rfl, hkc'⟩
  have hend : (hdEq (.mk k n s ks) (.mk k' n' s' ks') = false ∧ r = false ∧ st' = st) ∨ (hdEq (.mk k n s ks) (.mk k' n' s' ks') = true ∧ Chain (UC N kp) st ks ks' r st') := by
    rcases he with ⟨h1, _⟩ | ⟨h1, _, _⟩ | ⟨_, h1, _⟩ | ⟨_, _, h1⟩
    · exact absurd h1 hk1
    · exact absurd h1 hk1
    · exact absurd h1 hk2
    · exact h1
  refine ⟨fun q w' => q = .bool (!hdEq (.mk k n s ks) (.mk k' n' s' ks')) ∧ Inv w X [.blk b1 (.cells #[.int .i64 k, .int .i64 n, .string s, kv] t_iTerm), .blk b2 (.cells #[.int .i64 k', .int .i64 n', .string s', kv'] t_iTerm), .blk kb (.cells kc t_iTerm)] S w', ?_, ?_⟩
  · refine r_fieldL hI 0 rfl fo_iTerm_0 sc_int rfl ?_
    refine r_fieldL hI 1 rfl fo_iTerm_0 sc_int rfl ?_
    refine r_neq ?_
    by_cases e1 : k = k'
    · rw [decide_eq_true e1]
      repeat (first | refine guard_true ?_ | refine guard_ne (by decide) ?_ | refine guard_undef ?_ | refine r_pickT ?_ | refine r_pickF ?_)
      refine r_fieldL hI 0 rfl fo_iTerm_1 sc_int rfl ?_
      refine r_fieldL hI 1 rfl fo_iTerm_1 sc_int rfl ?_
      refine r_neq ?_
      by_cases e2 : n = n'
      · rw [decide_eq_true e2]
        repeat (first | refine guard_true ?_ | refine guard_ne (by decide) ?_ | refine guard_undef ?_ | refine r_pickT ?_ | refine r_pickF ?_)
        refine r_fieldL hI 0 rfl fo_iTerm_2 sc_string rfl ?_
        refine r_fieldL hI 1 rfl fo_iTerm_2 sc_string rfl ?_
        refine r_sneq ?_
        by_cases e3 : s = s'
        · rw [decide_eq_true e3]
          repeat (first | refine guard_true ?_ | refine guard_ne (by decide) ?_ | refine guard_undef ?_ | refine r_pickT ?_ | refine r_pickF ?_)
          refine r_fieldL hI 0 rfl fo_iTerm_3 sc_SiTerm rfl ?_
          refine r_lenSl hks sl_SiTerm ?_
          refine r_fieldL hI 1 rfl fo_iTerm_3 sc_SiTerm rfl ?_
          refine r_lenSl hks' sl_SiTerm ?_
          refine r_neq ?_
          repeat (first | refine guard_true ?_ | refine guard_ne (by decide) ?_ | refine guard_undef ?_ | refine r_pickT ?_ | refine r_pickF ?_)
          exact ⟨by rw [hdEq_mk, decide_eq_true e1, decide_eq_true e2, decide_eq_true e3, lenEq]; rfl, hI⟩
        · rw [decide_eq_false e3]
          repeat (first | refine guard_true ?_ | refine guard_ne (by decide) ?_ | refine guard_undef ?_ | refine r_pickT ?_ | refine r_pickF ?_)
          exact ⟨by rw [hdEq_mk, decide_eq_true e1, decide_eq_true e2, decide_eq_false e3]; rfl, hI⟩
      · rw [decide_eq_false e2]
        repeat (first | refine guard_true ?_ | refine guard_ne (by decide) ?_ | refine guard_undef ?_ | refine r_pickT ?_ | refine r_pickF ?_)
        exact ⟨by rw [hdEq_mk, decide_eq_true e1, decide_eq_false e2]; rfl, hI⟩
    · rw [decide_eq_false e1]
      repeat (first | refine guard_true ?_ | refine guard_ne (by decide) ?_ | refine guard_undef ?_ | refine r_pickT ?_ | refine r_pickF ?_)
      exact ⟨by rw [hdEq_mk, decide_eq_false e1]; rfl, hI⟩
  intro q _ _ _ _ _ _ _ _ _ _ _ _ _ _ _ _ _ _ _ _ _ _ _ _ _ _ _ w'
  rintro ⟨rfl, hI⟩
  cases hd : hdEq (.mk k n s ks) (.mk k' n' s' ks')
  · refine condV (fun _ => ?_) (fun hb => by cases hb)
    have : r = false ∧ st' = st := by
      rcases hend with ⟨_, h1⟩ | ⟨h1, _⟩
      · exact h1
      · rw [hd] at h1; cases h1
    obtain ⟨rfl, rfl⟩ := this
    exact ⟨_, _, _, rfl, hI.pick [false, false, true], Ext.refl _ _ _, rfl, rfl, _, rfl, hkc⟩
  refine condV (fun hb => by cases hb) (fun _ => ?_)
  have hle : ks.length = ks'.length := hdEq_len hd
  have hch : Chain (UC N kp) st ks ks' r st' := by
    rcases hend with ⟨h1, _⟩ | ⟨_, h1⟩
    · rw [hd] at h1; cases h1
    · exact h1
  refine ⟨fun i w' => ∃ (j : Nat) (st1 : Known) (kc1 : Array Value), j ≤ ks.length ∧ i = .int .i64 j ∧ Chain (UC N kp) st1 (ks.drop j) (ks'.drop j) r st' ∧ KnU S kc1 st1 ∧ Inv w X [.blk b1 (.cells #[.int .i64 k, .int .i64 n, .string s, kv] t_iTerm), .blk b2 (.cells #[.int .i64 k', .int .i64 n', .string s', kv'] t_iTerm), .blk kb (.cells kc1 t_iTerm)] S w', fun i _ => ks.length - (intOf i).toNat, ⟨0, st, kc, Nat.zero_le _, rfl, hch, hkc, hI⟩, ?_⟩
  intro t7 _ _ _ t96 t95 t94 t93 t92 t91 t90 t89 t88 t87 t86 t85 t84 _ _ _ _ _ w'
  rintro ⟨j, st1, kc1, hj, rfl, hrel, hkc1, hI⟩
  refine r_fieldL hI 0 rfl fo_iTerm_3 sc_SiTerm rfl ?_
  refine r_lenSl hks sl_SiTerm ?_
  refine r_lss ?_
  refine condP (fun hji => ?_) (fun hji => ?_)
  · have hj1 : j < ks.length := by omega
    have hj2 : j < ks'.length := by omega
    obtain ⟨c1, o1, cap1, a1, E1, fz1, rfl, hS1, hR1⟩ := hks.at_ hj1
    obtain ⟨c2, o2, cap2, a2, E2, fz2, rfl, hS2, hR2⟩ := hks'.at_ hj2
    rw [List.drop_eq_getElem_cons hj1, List.drop_eq_getElem_cons hj2] at hrel
    obtain ⟨r1, st2, hcall, hno, hyes⟩ := hrel.head
    have hcall := hcall S _ _ kb kc1 hR1 hR2 hkc1
    refine ⟨fun D x96 x95 x94 x93 x92 x91 x90 x89 x88 x87 x86 x85 x84 w_ => (D 0 = true → x84 = .pointer (some ⟨b1, 3, none⟩)) ∧ (D 1 = true → x85 = .slice (some ⟨c1, o1, none⟩) ks.length cap1) ∧ (D 2 = true → x86 = .int .i64 j) ∧ (D 3 = true → x87 = .pointer (some ⟨c1, o1 + j * 4, none⟩)) ∧ (D 4 = true → x88 = .agg (cellsAt a1 (o1 + j * 4) 4).toArray) ∧ (D 5 = true → x89 = .pointer (some ⟨b2, 3, none⟩)) ∧ (D 6 = true → x90 = .slice (some ⟨c2, o2, none⟩) ks'.length cap2) ∧ (D 7 = true → x91 = .int .i64 j) ∧ (D 8 = true → x92 = .pointer (some ⟨c2, o2 + j * 4, none⟩)) ∧ (D 9 = true → x93 = .agg (cellsAt a2 (o2 + j * 4) 4).toArray) ∧ (D 10 = true → x94 = kvU kb N kp) ∧ (D 11 = true → x95 = .bool r1) ∧ (D 12 = true → x96 = .bool (!r1)) ∧ (D 11 = false → Inv w X [.blk b1 (.cells #[.int .i64 k, .int .i64 n, .string s, .slice (some ⟨c1, o1, none⟩) ks.length cap1] t_iTerm), .blk b2 (.cells #[.int .i64 k', .int .i64 n', .string s', .slice (some ⟨c2, o2, none⟩) ks'.length cap2] t_iTerm), .blk kb (.cells kc1 t_iTerm)] S w_) ∧ (D 11 = true → ∃ kc2, KnU S kc2 st2 ∧ Inv w X [.blk b1 (.cells #[.int .i64 k, .int .i64 n, .string s, .slice (some ⟨c1, o1, none⟩) ks.length cap1] t_iTerm), .blk b2 (.cells #[.int .i64 k', .int .i64 n', .string s', .slice (some ⟨c2, o2, none⟩) ks'.length cap2] t_iTerm), .blk kb (.cells kc2 t_iTerm)] S w_) ∧ ∃ kc3, Inv w X [.blk b1 (.cells #[.int .i64 k, .int .i64 n, .string s, .slice (some ⟨c1, o1, none⟩) ks.length cap1] t_iTerm), .blk b2 (.cells #[.int .i64 k', .int .i64 n', .string s', .slice (some ⟨c2, o2, none⟩) ks'.length cap2] t_iTerm), .blk kb (.cells kc3 t_iTerm)] S w_, ⟨fun h => Bool.noConfusion h, fun h => Bool.noConfusion h, fun h => Bool.noConfusion h, fun h => Bool.noConfusion h, fun h => Bool.noConfusion h, fun h => Bool.noConfusion h, fun h => Bool.noConfusion h, fun h => Bool.noConfusion h, fun h => Bool.noConfusion h, fun h => Bool.noConfusion h, fun h => Bool.noConfusion h, fun h => Bool.noConfusion h, fun h => Bool.noConfusion h, ⟨fun _ => hI.draw, fun h => Bool.noConfusion h, kc1, hI.draw⟩⟩, ⟨?_, ?_, ?_, ?_, ?_, ?_, ?_, ?_, ?_, ?_, ?_, ?_, ?_, trivial⟩, ?_⟩
    · intro D hD_  x96 x95 x94 x93 x92 x91 x90 x89 x88 x87 x86 x85 x84 w_
      rintro ⟨h0_, h1_, h2_, h3_, h4_, h5_, h6_, h7_, h8_, h9_, h10_, h11_, h12_, ⟨hI0, hI1, kc3, hI⟩⟩
      refine r_field fo_iTerm_3 ?_
      exact ⟨fun _ => rfl, h1_, h2_, h3_, h4_, h5_, h6_, h7_, h8_, h9_, h10_, h11_, h12_, ⟨hI0, hI1, kc3, hI⟩⟩
    · intro D hD_ d0_0 x96 x95 x94 x93 x92 x91 x90 x89 x88 x87 x86 x85 x84 w_
      rintro ⟨h0_, h1_, h2_, h3_, h4_, h5_, h6_, h7_, h8_, h9_, h10_, h11_, h12_, ⟨hI0, hI1, kc3, hI⟩⟩
      obtain rfl := h0_ d0_0
      refine r_loadL hI 0 sc_SiTerm rfl rfl ?_
      exact ⟨h0_, fun _ => rfl, h2_, h3_, h4_, h5_, h6_, h7_, h8_, h9_, h10_, h11_, h12_, ⟨hI0, hI1, kc3, hI⟩⟩
    · intro D hD_  x96 x95 x94 x93 x92 x91 x90 x89 x88 x87 x86 x85 x84 w_
      rintro ⟨h0_, h1_, h2_, h3_, h4_, h5_, h6_, h7_, h8_, h9_, h10_, h11_, h12_, ⟨hI0, hI1, kc3, hI⟩⟩
      exact ⟨h0_, h1_, fun _ => rfl, h3_, h4_, h5_, h6_, h7_, h8_, h9_, h10_, h11_, h12_, ⟨hI0, hI1, kc3, hI⟩⟩
    · intro D hD_ d1_0 d2_1 x96 x95 x94 x93 x92 x91 x90 x89 x88 x87 x86 x85 x84 w_
      rintro ⟨h0_, h1_, h2_, h3_, h4_, h5_, h6_, h7_, h8_, h9_, h10_, h11_, h12_, ⟨hI0, hI1, kc3, hI⟩⟩
      obtain rfl := h1_ d1_0
      obtain rfl := h2_ d2_1
      refine r_indexAddr sl_SiTerm hj1 ?_
      exact ⟨h0_, h1_, h2_, fun _ => rfl, h4_, h5_, h6_, h7_, h8_, h9_, h10_, h11_, h12_, ⟨hI0, hI1, kc3, hI⟩⟩
    · intro D hD_ d3_0 x96 x95 x94 x93 x92 x91 x90 x89 x88 x87 x86 x85 x84 w_
      rintro ⟨h0_, h1_, h2_, h3_, h4_, h5_, h6_, h7_, h8_, h9_, h10_, h11_, h12_, ⟨hI0, hI1, kc3, hI⟩⟩
      obtain rfl := h3_ d3_0
      refine r_loadA ag_iTerm hR1.length (fun j v hj => by rw [hI.cellS hS1]; exact cellsAt_get rfl j v hj) ?_
      exact ⟨h0_, h1_, h2_, h3_, fun _ => rfl, h5_, h6_, h7_, h8_, h9_, h10_, h11_, h12_, ⟨hI0, hI1, kc3, hI⟩⟩
    · intro D hD_  x96 x95 x94 x93 x92 x91 x90 x89 x88 x87 x86 x85 x84 w_
      rintro ⟨h0_, h1_, h2_, h3_, h4_, h5_, h6_, h7_, h8_, h9_, h10_, h11_, h12_, ⟨hI0, hI1, kc3, hI⟩⟩
      refine r_field fo_iTerm_3 ?_
      exact ⟨h0_, h1_, h2_, h3_, h4_, fun _ => rfl, h6_, h7_, h8_, h9_, h10_, h11_, h12_, ⟨hI0, hI1, kc3, hI⟩⟩
    · intro D hD_ d5_0 x96 x95 x94 x93 x92 x91 x90 x89 x88 x87 x86 x85 x84 w_
      rintro ⟨h0_, h1_, h2_, h3_, h4_, h5_, h6_, h7_, h8_, h9_, h10_, h11_, h12_, ⟨hI0, hI1, kc3, hI⟩⟩
      obtain rfl := h5_ d5_0
      refine r_loadL hI 1 sc_SiTerm rfl rfl ?_
      exact ⟨h0_, h1_, h2_, h3_, h4_, h5_, fun _ => rfl, h7_, h8_, h9_, h10_, h11_, h12_, ⟨hI0, hI1, kc3, hI⟩⟩
    · intro D hD_  x96 x95 x94 x93 x92 x91 x90 x89 x88 x87 x86 x85 x84 w_
      rintro ⟨h0_, h1_, h2_, h3_, h4_, h5_, h6_, h7_, h8_, h9_, h10_, h11_, h12_, ⟨hI0, hI1, kc3, hI⟩⟩
      exact ⟨h0_, h1_, h2_, h3_, h4_, h5_, h6_, fun _ => rfl, h8_, h9_, h10_, h11_, h12_, ⟨hI0, hI1, kc3, hI⟩⟩
    · intro D hD_ d6_0 d7_1 x96 x95 x94 x93 x92 x91 x90 x89 x88 x87 x86 x85 x84 w_
      rintro ⟨h0_, h1_, h2_, h3_, h4_, h5_, h6_, h7_, h8_, h9_, h10_, h11_, h12_, ⟨hI0, hI1, kc3, hI⟩⟩
      obtain rfl := h6_ d6_0
      obtain rfl := h7_ d7_1
      refine r_indexAddr sl_SiTerm hj2 ?_
      exact ⟨h0_, h1_, h2_, h3_, h4_, h5_, h6_, h7_, fun _ => rfl, h9_, h10_, h11_, h12_, ⟨hI0, hI1, kc3, hI⟩⟩
    · intro D hD_ d8_0 x96 x95 x94 x93 x92 x91 x90 x89 x88 x87 x86 x85 x84 w_
      rintro ⟨h0_, h1_, h2_, h3_, h4_, h5_, h6_, h7_, h8_, h9_, h10_, h11_, h12_, ⟨hI0, hI1, kc3, hI⟩⟩
      obtain rfl := h8_ d8_0
      refine r_loadA ag_iTerm hR2.length (fun j v hj => by rw [hI.cellS hS2]; exact cellsAt_get rfl j v hj) ?_
      exact ⟨h0_, h1_, h2_, h3_, h4_, h5_, h6_, h7_, h8_, fun _ => rfl, h10_, h11_, h12_, ⟨hI0, hI1, kc3, hI⟩⟩
    · intro D hD_  x96 x95 x94 x93 x92 x91 x90 x89 x88 x87 x86 x85 x84 w_
      rintro ⟨h0_, h1_, h2_, h3_, h4_, h5_, h6_, h7_, h8_, h9_, h10_, h11_, h12_, ⟨hI0, hI1, kc3, hI⟩⟩
      exact ⟨h0_, h1_, h2_, h3_, h4_, h5_, h6_, h7_, h8_, h9_, fun _ => rfl, h11_, h12_, ⟨hI0, hI1, kc3, hI⟩⟩
    · intro D hD_ d4_0 d9_1 d10_2 x96 x95 x94 x93 x92 x91 x90 x89 x88 x87 x86 x85 x84 w_
      rintro ⟨h0_, h1_, h2_, h3_, h4_, h5_, h6_, h7_, h8_, h9_, h10_, h11_, h12_, ⟨hI0, hI1, kc3, hI⟩⟩
      obtain rfl := h4_ d4_0
      obtain rfl := h9_ d9_1
      obtain rfl := h10_ d10_2
      refine Run.call (A := [_, _]) fn_s_l3Unify nm_s_l3Unify (hI0 hD_) hcall fun v' I' S' w_ => ?_
      rintro ⟨eS, rfl, kc2, rfl, hk2⟩ _ hI
      rw [eS] at hI
      have hI0 := fun (h : setD D 11 11 = false) => (Bool.noConfusion h : Inv w X [.blk b1 (.cells #[.int .i64 k, .int .i64 n, .string s, .slice (some ⟨c1, o1, none⟩) ks.length cap1] t_iTerm), .blk b2 (.cells #[.int .i64 k', .int .i64 n', .string s', .slice (some ⟨c2, o2, none⟩) ks'.length cap2] t_iTerm), .blk kb (.cells kc1 t_iTerm)] S w_)
      have hI1 := fun (_ : setD D 11 11 = true) => (⟨kc2, hk2, hI⟩ : ∃ kc2, KnU S kc2 st2 ∧ Inv w X [.blk b1 (.cells #[.int .i64 k, .int .i64 n, .string s, .slice (some ⟨c1, o1, none⟩) ks.length cap1] t_iTerm), .blk b2 (.cells #[.int .i64 k', .int .i64 n', .string s', .slice (some ⟨c2, o2, none⟩) ks'.length cap2] t_iTerm), .blk kb (.cells kc2 t_iTerm)] S w_)
      obtain ⟨kc3, hI⟩ : ∃ kc3, Inv w X [.blk b1 (.cells #[.int .i64 k, .int .i64 n, .string s, .slice (some ⟨c1, o1, none⟩) ks.length cap1] t_iTerm), .blk b2 (.cells #[.int .i64 k', .int .i64 n', .string s', .slice (some ⟨c2, o2, none⟩) ks'.length cap2] t_iTerm), .blk kb (.cells kc3 t_iTerm)] S w_ := ⟨kc2, hI⟩
      exact ⟨h0_, h1_, h2_, h3_, h4_, h5_, h6_, h7_, h8_, h9_, h10_, fun _ => rfl, h12_, ⟨hI0, hI1, kc3, hI⟩⟩
    · intro D hD_ d11_0 x96 x95 x94 x93 x92 x91 x90 x89 x88 x87 x86 x85 x84 w_
      rintro ⟨h0_, h1_, h2_, h3_, h4_, h5_, h6_, h7_, h8_, h9_, h10_, h11_, h12_, ⟨hI0, hI1, kc3, hI⟩⟩
      obtain rfl := h11_ d11_0
      refine r_not ?_
      exact ⟨h0_, h1_, h2_, h3_, h4_, h5_, h6_, h7_, h8_, h9_, h10_, h11_, fun _ => rfl, ⟨hI0, hI1, kc3, hI⟩⟩
    intro D d12_ d11_ d10_ d9_ d8_ d7_ d6_ d5_ d4_ d3_ d2_ d1_ d0_ x96 x95 x94 x93 x92 x91 x90 x89 x88 x87 x86 x85 x84 w_
    rintro ⟨h0_, h1_, h2_, h3_, h4_, h5_, h6_, h7_, h8_, h9_, h10_, h11_, h12_, ⟨hI0, hI1, kc3, hI⟩⟩
    obtain rfl := h12_ d12_
    obtain rfl := h11_ d11_
    obtain rfl := h10_ d10_
    obtain rfl := h9_ d9_
    obtain rfl := h8_ d8_
    obtain rfl := h7_ d7_
    obtain rfl := h6_ d6_
    obtain rfl := h5_ d5_
    obtain rfl := h4_ d4_
    obtain rfl := h3_ d3_
    obtain rfl := h2_ d2_
    obtain rfl := h1_ d1_
    obtain rfl := h0_ d0_
    clear h0_ h1_ h2_ h3_ h4_ h5_ h6_ h7_ h8_ h9_ h10_ h11_ h12_
    obtain ⟨kc2, hk2, hI⟩ := hI1 d11_
    clear hI0 hI1
    refine condV (fun hne => ?_) (fun he' => ?_)
    · simp only [Bool.not_eq_true'] at hne
      obtain ⟨rfl, rfl⟩ := hno hne
      exact ⟨_, _, _, rfl, hI.pick [false, false, true], Ext.refl _ _ _, rfl, rfl, _, rfl, hk2⟩
    · simp only [Bool.not_eq_false'] at he'
      refine r_add (by omega) ?_
      exact ⟨⟨j + 1, st2, kc2, hj1, rfl, hyes he', hk2, hI⟩, by simp [intOf]; omega⟩
  · have : j = ks.length := by omega
    subst this
    rw [List.drop_length, hle, List.drop_length] at hrel
    obtain ⟨rfl, rfl⟩ := hrel.done
    exact ⟨_, _, _, rfl, hI.pick [false, false, true], Ext.refl _ _ _, rfl, rfl, _, rfl, hkc1⟩
theorem l3Unify_calls {N kp : Nat} (hN : N ≤ 1000000) {st st' : Known} {a b : T} {r : Bool} (hg : Good N st) (hj : okJ N (.one a b)) (hu : Uni st (.one a b) r st') : UC N kp st a b r st' := by
  refine Uni.calls (N := N) (Call := UC N kp) (fun st a b a' b' r st' hg hj hwa hwb he => ?_) hu hg hj
  refine l3Unify_body hN hg hj hwa hwb (fun h1 h2 => ?_) he
  have hoa := walk_ok hg hwa hj.1
  have hob := walk_ok hg hwb hj.2
  have hend : (¬ OccP st b'.n.toNat a' ∧ r = true ∧ st' = st.set b'.n.toNat (some a')) ∨ (OccP st b'.n.toNat a' ∧ r = false ∧ st' = st) := by
    rcases he with ⟨h3, _⟩ | ⟨h3, _, _⟩ | ⟨_, _, h3⟩ | ⟨_, h3, _⟩
    · exact absurd h3 h1
    · exact absurd h3 h1
    · exact h3
    · exact absurd h2 h3
  refine l3Unify_body hN hg ⟨hob, hoa⟩ (.stop (walk_none hwb)) (.stop (walk_none hwa)) (fun h3 _ => absurd h2 h3) (.inr (.inl ⟨h2, fun h3 => h1 h3.1, hend⟩))
end

end Go.Proofs.YtaaihodhhacapaaGreat

/- Reslicing; a read slice joined to a row. -/
namespace Go.Proofs.YtaaihodhhacapaaGreat
open Go Go.RowKit

theorem sliceOf_size {P : Program} {T e : TypeId} {k : Nat} (h : sliceOf P T = some (e, k)) : P.underlying T = some (.slice e) ∧ ∃ i, P.info? e = some i ∧ i.size = k := by
  unfold sliceOf at h
  split at h
  · rename_i e1 he
    rw [Option.map_eq_some_iff] at h
    obtain ⟨i, hi, hx⟩ := h
    simp only [Prod.mk.injEq] at hx
    obtain ⟨rfl, rfl⟩ := hx
    exact ⟨he, i, hi, rfl⟩
  · cases h
section
variable {P : Program} {w : World} {K : Value → World → Prop}
attribute [local irreducible] Run
theorem run_bound {n y : Nat} {code : BoundsCode} (h : n ≤ y) : (Instr.sliceBound (.int .i64 n) y code).run P w = .ok n w := by
  have h1 : (0 : Int) ≤ (n : Int) ∧ (n : Int) ≤ (y : Int) := by omega
  simp [Instr.sliceBound, asIntOf, h]
theorem r_slTo {T ty e : TypeId} {k h len cap : Nat} {a : Option Addr} (hT : sliceOf P T = some (e, k)) (hh : h ≤ cap) (hk : K (.slice (if cap = 0 then a else a.map (·.add (0 * k))) h cap) w) :
    Run P (sOp (.slice T (.const (.slice a len cap)) none (some (.const (.int .i64 h))) none) ty) w K := by
  obtain ⟨hu, i, hi, _⟩ := sliceOf_size hT
  refine Run.of ?_ hk
  simp [sOp, execOp, ev0, evE, Instr.sliceAt, Instr.slice, Instr.sliceBounds, run_underlying hu, run_bound hh, sizeOf, typeInfo, hi]
theorem r_slFrom {T ty e : TypeId} {k l len cap : Nat} {a : Option Addr} (hT : sliceOf P T = some (e, k)) (hl : l ≤ len) (hk : K (.slice (if cap = l then a else a.map (·.add (l * k))) (len - l) (cap - l)) w) :
    Run P (sOp (.slice T (.const (.slice a len cap)) (some (.const (.int .i64 l))) none none) ty) w K := by
  obtain ⟨hu, i, hi, hs⟩ := sliceOf_size hT
  refine Run.of ?_ hk
  simp [sOp, execOp, ev0, evE, Instr.sliceAt, Instr.slice, Instr.sliceBounds, run_underlying hu, run_bound hl, sizeOf, typeInfo, hi, hs]
end
theorem RdSl.to {α : Type} {S : Store} {k : Nat} {R : List Value → α → Prop} {a : Option Addr} {cap n h : Nat} {xs : List α} (hx : RdSl S k R (.slice a n cap) xs) (hh : h ≤ xs.length) :
    RdSl S k R (.slice (if cap = 0 then a else a.map (·.add (0 * k))) h cap) (xs.take h) := by
  obtain ⟨a', cap', e, hl, hc, hx⟩ := hx
  simp only [Value.slice.injEq] at e
  obtain ⟨rfl, rfl, rfl⟩ := e
  have e1 : (if cap = 0 then a else a.map (·.add (0 * k))) = a := by
    split
    · rfl
    · cases a <;> simp [Addr.add]
  rw [e1]
  have e2 : h = (xs.take h).length := by rw [List.length_take]; omega
  refine ⟨a, cap, by rw [← e2], by omega, hc, ?_⟩
  rcases hx with rfl | ⟨b, o, c, E, fz, rfl, hS, hR⟩
  · left; simp
  · right
    refine ⟨b, o, c, E, fz, rfl, hS, fun i hi => ?_⟩
    rw [List.getElem_take]
    exact hR i (by omega)
theorem RdSl.from {α : Type} {S : Store} {k : Nat} {R : List Value → α → Prop} {a : Option Addr} {cap n l : Nat} {xs : List α} (hx : RdSl S k R (.slice a n cap) xs) (hl : l ≤ xs.length) :
    RdSl S k R (.slice (if cap = l then a else a.map (·.add (l * k))) (n - l) (cap - l)) (xs.drop l) := by
  obtain ⟨a', cap', e, hlc, hc, hx⟩ := hx
  simp only [Value.slice.injEq] at e
  obtain ⟨rfl, rfl, rfl⟩ := e
  refine ⟨_, cap - l, by rw [List.length_drop], by rw [List.length_drop]; omega, by omega, ?_⟩
  by_cases hd : xs.drop l = []
  · exact .inl hd
  · rcases hx with rfl | ⟨b, o, c, E, fz, rfl, hS, hR⟩
    · simp at hd
    · right
      have hlt : l < xs.length := by
        rcases Nat.lt_or_ge l xs.length with h | h
        · exact h
        · exact absurd (List.drop_eq_nil_of_le h) hd
      refine ⟨b, o + l * k, c, E, fz, ?_, hS, fun i hi => ?_⟩
      · rw [if_neg (by omega)]
        simp [Addr.add]
      · rw [List.getElem_drop]
        have := hR (l + i) (by simp at hi; omega)
        rwa [Nat.add_mul, ← Nat.add_assoc] at this
section
variable {P : Program} {w w0 : World} {X : List Nat} {L : List Item} {S : Store} {K : Value → World → Prop}
attribute [local irreducible] Run CondV GuardV LoadV
theorem r_sliceTo {α : Type} {R : List Value → α → Prop} {xs : List α} {v : Value} {T ty e : TypeId} {k h : Nat} (hT : sliceOf P T = some (e, k)) (hx : RdSl S k R v xs) (hh : h ≤ xs.length)
    (hk : ∀ v', RdSl S k R v' (xs.take h) → K v' w) : Run P (sOp (.slice T (.const v) none (some (.const (.int .i64 h))) none) ty) w K := by
  obtain ⟨a, cap, rfl, hl, hc, hx'⟩ := id hx
  exact r_slTo hT (by omega) (hk _ (hx.to hh))
theorem r_sliceFrom {α : Type} {R : List Value → α → Prop} {xs : List α} {v : Value} {T ty e : TypeId} {k l : Nat} (hT : sliceOf P T = some (e, k)) (hx : RdSl S k R v xs) (hl : l ≤ xs.length)
    (hk : ∀ v', RdSl S k R v' (xs.drop l) → K v' w) : Run P (sOp (.slice T (.const v) (some (.const (.int .i64 l))) none none) ty) w K := by
  obtain ⟨a, cap, rfl, hl', hc, hx'⟩ := id hx
  exact r_slFrom hT hl (hk _ (hx.from hl))
end
theorem RdSl.exact {α : Type} {S : Store} {k : Nat} {R : List Value → α → Prop} {v : Value} {ys : List α} (h : RdSl S k R v ys) (hk : ∀ cs y, R cs y → cs.length = k) :
    ∃ ds : List {cs : List Value // cs.length = k}, RdSl S k (fun cs d => cs = d.val) v ds ∧ Rows k R (ds.map (·.val)) ys := by
  obtain ⟨a, cap, rfl, hl, hc, hx⟩ := h
  rcases hx with rfl | ⟨b, o, c, E, fz, rfl, hS, hR⟩
  · exact ⟨[], ⟨a, cap, rfl, hl, hc, .inl rfl⟩, Rows.nil _ _⟩
  · refine ⟨List.ofFn fun i : Fin ys.length => ⟨cellsAt c (o + i.val * k) k, hk _ _ (hR i.val i.isLt)⟩, ⟨_, cap, by rw [List.length_ofFn], by rw [List.length_ofFn]; exact hl, hc, .inr ⟨b, o, c, E, fz, rfl, hS, fun i hi => by simp⟩⟩, ⟨by simp, fun cs hcs => ?_, fun i h1 h2 => ?_⟩⟩
    · obtain ⟨d, _, rfl⟩ := List.mem_map.1 hcs
      exact d.property
    · simp only [List.getElem_map, List.getElem_ofFn]
      exact hR i h1
section
variable {P : Program} {w w0 : World} {X : List Nat} {L : List Item} {S : Store} {K : Value → World → Prop}
attribute [local irreducible] Run CondV GuardV LoadV
theorem r_appendRd {α : Type} {R : List Value → α → Prop} (h : Inv w0 X L S w) {T ty e : TypeId} {k by_ : Nat} {z v u : Value} {cs : List Bool} {css : List (List Value)} {ys : List α} (i : Nat)
    (hT : mkOf P T = some (e, k, by_, z)) (hk0 : 0 < k) (hi : L[i]? = some (rowG v e k css)) (hr : RdSl S k R u ys) (hlen : ∀ cs y, R cs y → cs.length = k) (h1 : ∀ cs y, R cs y → ∀ c ∈ cs, c.oneCell' = true)
    (hfit : css.length + ys.length ≤ 4294967296) (hby : by_ ≤ 32768) (hk : ∀ v' w' css2, Rows k R css2 ys → Inv w0 X (L.set i (rowG v' e k (css ++ css2))) S w' → K v' w') :
    Run P (sBuiltin .append #[T, T] ty cs [v, u]) w K := by
  obtain ⟨ds, hd, hR⟩ := hr.exact hlen
  have hdl : ds.length = ys.length := by have := hR.hc; simpa using this
  have hone : ∀ d ∈ ds, ∀ c ∈ d.val, c.oneCell' = true := by
    intro d hd' c hc
    obtain ⟨j, hj, rfl⟩ := List.mem_iff_getElem.1 hd'
    have := hR.hR j (by omega) (by simpa using hj)
    simp only [List.getElem_map] at this
    exact h1 _ _ this c hc
  obtain ⟨a, cap, rfl, hl', hc', hx⟩ := id hd
  have e1 : ∀ v', Item.row v' e k (css.length + ds.length) (css.flatten ++ (ds.map (·.val)).flatten) = rowG v' e k (css ++ ds.map (·.val)) := fun v' => by simp [rowG]
  rcases hx with rfl | ⟨b, o, c, E, fz, rfl, hS, hel⟩
  · refine r_append0 h i hT hi (hk v w [] (by simpa using hR) ?_)
    have : L.set i (rowG v e k (css ++ [])) = L := by
      obtain ⟨hlt, e'⟩ := List.getElem?_eq_some_iff.1 hi
      rw [List.append_nil, ← e', List.set_getElem_self]
    rw [this]
    exact h
  · have hfl : (ds.map (·.val)).flatten.length = ds.length * k := by
      rw [flatten_len (k := k) (fun cs hcs => by obtain ⟨d, _, rfl⟩ := List.mem_map.1 hcs; exact d.property), List.length_map]
    refine r_append h i (ds.map (·.val)).flatten hT hk0 hi hfl ?_ ?_ (by omega) hby fun v' w' hI => hk _ _ _ hR ?_
    · intro j u hj
      have hj' : j < ds.length * k := by
        rw [← hfl]
        exact (List.getElem?_eq_some_iff.1 hj).1
      have hq : j / k < ds.length := (Nat.div_lt_iff_lt_mul hk0).2 hj'
      have hcell := hel (j / k) hq
      have hflat := flatten_at k (ds.map (·.val)) (j / k) (fun cs hcs => by obtain ⟨d, _, rfl⟩ := List.mem_map.1 hcs; exact d.property) (by simpa using hq)
      have hdm := Nat.div_add_mod j k
      rw [Nat.mul_comm] at hdm
      rw [h.cellS hS]
      have e2 : (ds.map (·.val)).flatten[j]? = (ds[j / k].val)[j % k]? := by
        rw [List.getElem_map] at hflat
        rw [← hflat, List.getElem?_take, if_pos (Nat.mod_lt _ hk0), List.getElem?_drop]
        congr 1
        omega
      rw [e2] at hj
      have := cellsAt_get hcell (j % k) u hj
      rw [← this]
      congr 1
      omega
    · intro u hu
      obtain ⟨cs, hcs, hu⟩ := List.mem_flatten.1 hu
      obtain ⟨d, hd', rfl⟩ := List.mem_map.1 hcs
      exact hone d hd' u hu
    · rw [← e1]
      exact hI
end

end Go.Proofs.YtaaihodhhacapaaGreat

/- Publishing what a call owns; what is published since. -/
namespace Go.Proofs.YtaaihodhhacapaaGreat
open Go Go.RowKit
/- a tree of one's own, published -/
theorem Inv.pubExt {w0 w : World} {X : List Nat} {A : List Item} {S : Store} {L : Heaplet} (h : Inv w0 X (A ++ blks L) S w) :
    ∃ S', Inv w0 X A S' w ∧ Ext w0.heap.size X S S' ∧ Ins S' L := by
  obtain ⟨S', h1, h2, h3, h4⟩ := h.publishAll L
  refine ⟨S', h1, ⟨h2, fun b o hb => ?_⟩, h3⟩
  rcases h4 b o hb with h5 | h5
  · exact .inl h5
  · right
    exact h.new b (by rw [feet_append]; exact List.mem_append_right _ h5)
theorem Inv.pub1 {w0 w : World} {X : List Nat} {A : List Item} {S : Store} {b : Nat} {o : Obj} (h : Inv w0 X (A ++ [.blk b o]) S w) :
    ∃ S', Inv w0 X A S' w ∧ Ext w0.heap.size X S S' ∧ S' b = some o := by
  obtain ⟨S', h1, h2, h3⟩ := Inv.pubExt (A := A) (L := [(b, o)]) h
  exact ⟨S', h1, h2, h3 _ (List.mem_singleton.2 rfl)⟩
theorem Rows.monoR {α : Type} {k : Nat} {R R' : List Value → α → Prop} {css : List (List Value)} {ys : List α} (h : Rows k R css ys) (hR : ∀ cs y, R cs y → R' cs y) : Rows k R' css ys := ⟨h.hc, h.hk, fun i h1 h2 => hR _ _ (h.hR i h1 h2)⟩
theorem Rows.one {α : Type} {k : Nat} {R : List Value → α → Prop} {cs : List Value} {y : α} (hR : R cs y) (hl : cs.length = k) : Rows k R [cs] [y] := by
  have := (Rows.nil k R).snoc hR hl
  exact this
section
variable {P : Program} {w w0 : World} {X : List Nat} {L : List Item} {S : Store} {K : Value → World → Prop}
theorem Run.call0E {f : FuncId} {fn : Func} {args : List Value} {Post : Value → List Item → Store → Prop}
    (hf : P.funcs[f]? = some fn) (hn : (fn.name == "runtime.NumGoroutine" || fn.body.isNone) = false) (h : Inv w0 X L S w) (hc : Tri P f args [] S Post)
    (hk : ∀ v I' S' w', Post v I' S' → Ext w0.heap.size X S S' → Inv w0 X (L ++ I') S' w' → K v w') : Run P (sCall (.func (.func f) #[] #[]) args) w K := by
  refine Run.callP hf hn ((hc w h.nil.begin).mono ?_)
  rintro e w' ⟨v, I', S', rfl, hI, hE, hP⟩
  refine hk v I' S' w' hP ⟨hE.1, fun b o hb => ?_⟩ (Inv.step (A := L) (B := []) (by simpa using h) hI hE.2)
  rcases hE.2 b o hb with h1 | h1 | h1
  · exact .inl h1
  · simp [feet] at h1
  · exact .inr (.inr (Nat.le_trans h.size h1))
end
theorem Ext.trans {n : Nat} {Y : List Nat} {S S' S'' : Store} (h : Ext n Y S S') (h' : Ext n Y S' S'') : Ext n Y S S'' := by
  refine ⟨h.1.trans h'.1, fun b o hb => ?_⟩
  rcases h'.2 b o hb with h1 | h1
  · exact h.2 b o h1
  · exact .inr h1
section
variable {P : Program} {w w0 : World} {X : List Nat} {A I : List Item} {S : Store} {K : Value → World → Prop}
theorem ext_of {f : FuncId} {args : List Value} {Post : Value → List Item → Store → Prop} (h : Inv w0 X (A ++ I) S w) (hc : Tri P f args I S Post) :
    Calls P f args.toArray w fun e w' => ∃ v I' S', e = .returned v ∧ Inv w0 X (A ++ I') S' w' ∧ Ext w0.heap.size X S S' ∧ Post v I' S' := by
  refine (hc w (h.sub (List.sublist_append_right A I)).begin).mono ?_
  rintro e w' ⟨v, I', S', rfl, hI, hE, hP⟩
  refine ⟨v, I', S', rfl, Inv.step h hI hE.2, ⟨hE.1, fun b o hb => ?_⟩, hP⟩
  rcases hE.2 b o hb with h1 | h1 | h1
  · exact .inl h1
  · exact .inr (h.new b (by rw [feet_append]; exact List.mem_append_right _ h1))
  · exact .inr (.inr (Nat.le_trans h.size h1))
theorem Run.callE {f : FuncId} {fn : Func} {args : List Value} {Post : Value → List Item → Store → Prop}
    (hf : P.funcs[f]? = some fn) (hn : (fn.name == "runtime.NumGoroutine" || fn.body.isNone) = false) (h : Inv w0 X (A ++ I) S w) (hc : Tri P f args I S Post)
    (hk : ∀ v I' S' w', Post v I' S' → Ext w0.heap.size X S S' → Inv w0 X (A ++ I') S' w' → K v w') : Run P (sCall (.func (.func f) #[] #[]) args) w K := by
  refine Run.callP hf hn ((ext_of h hc).mono ?_)
  rintro e w' ⟨v, I', S', rfl, hI, hE, hP⟩
  exact hk v I' S' w' hP hE hI
theorem Run.callVE {f : FuncId} {fn : Func} {cap args : List Value} {Post : Value → List Item → Store → Prop}
    (hf : P.funcs[f]? = some fn) (hn : (fn.name == "runtime.NumGoroutine" || fn.body.isNone) = false) (h : Inv w0 X (A ++ I) S w) (hc : Tri P f (args ++ cap) I S Post)
    (hk : ∀ v I' S' w', Post v I' S' → Ext w0.heap.size X S S' → Inv w0 X (A ++ I') S' w' → K v w') : Run P (sCall (fv f cap) args) w K := by
  unfold Run
  rw [callV_sem hf hn]
  refine (ext_of h hc).mono ?_
  rintro e w' ⟨v, I', S', rfl, hI, hE, hP⟩
  exact hk v I' S' w' hP hE hI
end
theorem Inv.lendExt {w0 w : World} {X : List Nat} {A : List Item} {S : Store} {v : Value} {e : TypeId} {k : Nat} {css : List (List Value)} (h : Inv w0 X (A ++ [rowG v e k css]) S w) :
    ∃ S', Ext w0.heap.size X S S' ∧ RowRd S' v e k css.length css.flatten ∧ Inv w0 X A S' w := by
  obtain ⟨hl, ho⟩ := h.openRow
  rcases ho with ⟨rfl, h0⟩ | ⟨g, cap, cur, rfl, hnc, hcm, hcs, ht, hI⟩
  · exact ⟨S, Ext.refl _ _ _, ⟨hl, .inl ⟨rfl, h0⟩⟩, h.sub (List.sublist_append_left _ _)⟩
  · obtain ⟨S', h1, h2, h3⟩ := Inv.pub1 (A := A) hI
    exact ⟨S', h2, ⟨hl, .inr ⟨g, cap, cur, rfl, h3, hnc, hcm, hcs, ht⟩⟩, h1⟩

end Go.Proofs.YtaaihodhhacapaaGreat

/- slices.Delete on a tree of the function's own. -/
namespace Go.Proofs.YtaaihodhhacapaaGreat
open Go Go.RowKit
section
variable {P : Program} {w w0 : World} {X : List Nat} {L : List Item} {S : Store} {K : Value → World → Prop}
attribute [local irreducible] Run CondV GuardV LoadV
/- append within the room of a block -/
end
end Go.Proofs.YtaaihodhhacapaaGreat

/- DropClause: both sides. -/
namespace Go.Proofs.YtaaihodhhacapaaGreat
open Go Go.RowKit
attribute [local irreducible] Run CondV GuardV LoadV

end Go.Proofs.YtaaihodhhacapaaGreat

/- DropClause: both sides. -/
namespace Go.Proofs.YtaaihodhhacapaaGreat
open Go Go.RowKit
attribute [local irreducible] Run CondV GuardV LoadV

end Go.Proofs.YtaaihodhhacapaaGreat

/- spec.RenumberClause. -/
namespace Go.Proofs.YtaaihodhhacapaaGreat
open Go Go.RowKit
section
attribute [local irreducible] Run CondV GuardV LoadV
theorem lastI_in {vs : List Int} {n : Int} (hn : inI n) (hl : vs.length ≤ 1000000000) : inI (lastI vs n n 0) := by
  rcases lastI_rng vs n n 0 with h | h
  · rw [h]; exact hn
  · simp only [inI] at hn ⊢; omega
theorem l1Rename_calls (vs : List Int) (hvl : vs.length ≤ 1000000000) : ∀ (t : T) (S : Store) (cs : List Value) (v : Value), RdT S cs t → RdSl S 1 RdInt v vs → wT t ≤ 1048576 → Tri Tryz.prog n_s_l1Rename [.agg cs.toArray, v] [] S (PostT S (srenT vs t)) := by
  refine T.ind fun k n s ks ih S cs v h hv hw => ?_
  intro w hI
  obtain ⟨kv, rfl, h1, h2, hs, hks⟩ := RdT.iff.1 h
  simp only [T.name, T.kids, T.kind, T.n] at h1 h2 hs hks ⊢
  simp only [wT] at hw
  obtain ⟨N, hN⟩ : ∃ N, N = if k = 1 then lastI vs n n 0 else n := ⟨_, rfl⟩
  have hNi : inI N := by
    rw [hN]
    split
    · exact lastI_in h2 hvl
    · exact h2
  refine calls_s_l1Rename ?_
  unfold sh_s_l1Rename
  refine r_box hI fun b1 w' hI => ?_
  refine r_alloc hI zo_iTerm fun b2 w' hI => ?_
  refine r_fieldL hI 0 rfl fo_iTerm_0 sc_int rfl ?_
  refine r_fieldL hI 0 rfl fo_iTerm_1 sc_int rfl ?_
  refine r_fieldL hI 0 rfl fo_iTerm_2 sc_string rfl ?_
  refine r_buildTerm ?_
  refine r_alloc hI zo_iTerm fun b3 w' hI => ?_
  refine r_storeW hI 2 rfl ag_iTerm rfl rfl (by simp [Value.oneCell']) fun w' hI => ?_
  refine ⟨fun i w' => ∃ (j : Nat) (cur : Int), j ≤ vs.length ∧ i = .int .i64 j ∧ (if k = 1 then lastI (vs.drop j) n cur j else cur) = N ∧
      Inv w [] [.blk b1 (.cells #[.int .i64 k, .int .i64 n, .string s, kv] t_iTerm), .blk b2 (.cells #[.int .i64 0, .int .i64 0, .string ⟨#[]⟩, .slice none 0 0] t_iTerm), .blk b3 (.cells #[.int .i64 k, .int .i64 cur, .string s, .slice none 0 0] t_iTerm)] S w',
    fun i _ => vs.length - (intOf i).toNat, ⟨0, n, Nat.zero_le _, rfl, hN.symm, hI⟩, ?_⟩
  intro t6 _ _ _ _ _ _ _ _ _ _ _ _ _ _ _ _ _ _ _ _ w'
  rintro ⟨j, cur, hj, rfl, hrel, hI⟩
  refine ⟨fun t w' => t = .bool (decide (j < vs.length) && decide (k = 1)) ∧ Inv w [] [.blk b1 (.cells #[.int .i64 k, .int .i64 n, .string s, kv] t_iTerm), .blk b2 (.cells #[.int .i64 0, .int .i64 0, .string ⟨#[]⟩, .slice none 0 0] t_iTerm), .blk b3 (.cells #[.int .i64 k, .int .i64 cur, .string s, .slice none 0 0] t_iTerm)] S w', ?_, ?_⟩
  · refine r_lenSl hv sl_Sint ?_
    refine r_lss ?_
    by_cases hji : j < vs.length
    · rw [decide_eq_true (show (j : Int) < (vs.length : Int) by omega)]
      repeat (first | refine guard_true ?_ | refine guard_ne (by decide) ?_ | refine guard_undef ?_ | refine r_pickT ?_ | refine r_pickF ?_)
      refine r_fieldL hI 0 rfl fo_iTerm_0 sc_int rfl ?_
      refine r_eql ?_
      repeat (first | refine guard_true ?_ | refine guard_ne (by decide) ?_ | refine guard_undef ?_ | refine r_pickT ?_ | refine r_pickF ?_)
      exact ⟨by rw [decide_eq_true hji]; rfl, hI⟩
    · rw [decide_eq_false (show ¬ (j : Int) < (vs.length : Int) by omega)]
      repeat (first | refine guard_true ?_ | refine guard_ne (by decide) ?_ | refine guard_undef ?_ | refine r_pickT ?_ | refine r_pickF ?_)
      exact ⟨by rw [decide_eq_false hji]; rfl, hI⟩
  intro t _ _ _ _ _ _ _ _ w'
  rintro ⟨rfl, hI⟩
  refine condV (fun hb => ?_) (fun hb => ?_)
  · simp only [Bool.and_eq_true, decide_eq_true_eq] at hb
    obtain ⟨hji, hk⟩ := hb
    rw [if_pos hk, List.drop_eq_getElem_cons hji, lastI] at hrel
    refine ⟨fun w' => Inv w [] [.blk b1 (.cells #[.int .i64 k, .int .i64 n, .string s, kv] t_iTerm), .blk b2 (.cells #[.int .i64 0, .int .i64 0, .string ⟨#[]⟩, .slice none 0 0] t_iTerm), .blk b3 (.cells #[.int .i64 k, .int .i64 (if vs[j] = n then (j : Int) else cur), .string s, .slice none 0 0] t_iTerm)] S w', ?_, ?_⟩
    · obtain ⟨b, o, cap, c, E, fz, rfl, hS, hR⟩ := hv.at_ hji
      refine ⟨fun D x32 x31 x30 x29 x28 x27 x26 w_ => (D 0 = true → x26 = .slice (some ⟨b, o, none⟩) vs.length cap) ∧ (D 1 = true → x27 = .int .i64 j) ∧ (D 2 = true → x28 = .pointer (some ⟨b, o + j * 1, none⟩)) ∧ (D 3 = true → x29 = .int .i64 vs[j]) ∧ (D 4 = true → x30 = .pointer (some ⟨b1, 1, none⟩)) ∧ (D 5 = true → x31 = .int .i64 n) ∧ (D 6 = true → x32 = .bool (decide (vs[j] = n))) ∧ Inv w [] [.blk b1 (.cells #[.int .i64 k, .int .i64 n, .string s, kv] t_iTerm), .blk b2 (.cells #[.int .i64 0, .int .i64 0, .string ⟨#[]⟩, .slice none 0 0] t_iTerm), .blk b3 (.cells #[.int .i64 k, .int .i64 cur, .string s, .slice none 0 0] t_iTerm)] S w_, ⟨fun h => Bool.noConfusion h, fun h => Bool.noConfusion h, fun h => Bool.noConfusion h, fun h => Bool.noConfusion h, fun h => Bool.noConfusion h, fun h => Bool.noConfusion h, fun h => Bool.noConfusion h, hI.draw⟩, ⟨?_, ?_, ?_, ?_, ?_, ?_, ?_, trivial⟩, ?_⟩
      · intro D hD_  x32 x31 x30 x29 x28 x27 x26 w_
        rintro ⟨h0_, h1_, h2_, h3_, h4_, h5_, h6_, hI⟩
        exact ⟨fun _ => rfl, h1_, h2_, h3_, h4_, h5_, h6_, hI⟩
      · intro D hD_  x32 x31 x30 x29 x28 x27 x26 w_
        rintro ⟨h0_, h1_, h2_, h3_, h4_, h5_, h6_, hI⟩
        exact ⟨h0_, fun _ => rfl, h2_, h3_, h4_, h5_, h6_, hI⟩
      · intro D hD_ d0_0 d1_1 x32 x31 x30 x29 x28 x27 x26 w_
        rintro ⟨h0_, h1_, h2_, h3_, h4_, h5_, h6_, hI⟩
        obtain rfl := h0_ d0_0
        obtain rfl := h1_ d1_1
        refine r_indexAddr sl_Sint hji ?_
        exact ⟨h0_, h1_, fun _ => rfl, h3_, h4_, h5_, h6_, hI⟩
      · intro D hD_ d2_0 x32 x31 x30 x29 x28 x27 x26 w_
        rintro ⟨h0_, h1_, h2_, h3_, h4_, h5_, h6_, hI⟩
        obtain rfl := h2_ d2_0
        refine r_load sc_int (by rw [hI.cellS hS]; exact cellsAt_get hR 0 _ rfl) ?_
        exact ⟨h0_, h1_, h2_, fun _ => rfl, h4_, h5_, h6_, hI⟩
      · intro D hD_  x32 x31 x30 x29 x28 x27 x26 w_
        rintro ⟨h0_, h1_, h2_, h3_, h4_, h5_, h6_, hI⟩
        refine r_field fo_iTerm_1 ?_
        exact ⟨h0_, h1_, h2_, h3_, fun _ => rfl, h5_, h6_, hI⟩
      · intro D hD_ d4_0 x32 x31 x30 x29 x28 x27 x26 w_
        rintro ⟨h0_, h1_, h2_, h3_, h4_, h5_, h6_, hI⟩
        obtain rfl := h4_ d4_0
        refine r_loadL hI 0 sc_int rfl rfl ?_
        exact ⟨h0_, h1_, h2_, h3_, h4_, fun _ => rfl, h6_, hI⟩
      · intro D hD_ d3_0 d5_1 x32 x31 x30 x29 x28 x27 x26 w_
        rintro ⟨h0_, h1_, h2_, h3_, h4_, h5_, h6_, hI⟩
        obtain rfl := h3_ d3_0
        obtain rfl := h5_ d5_1
        refine r_eql ?_
        exact ⟨h0_, h1_, h2_, h3_, h4_, h5_, fun _ => rfl, hI⟩
      intro D d6_ d5_ d4_ d3_ d2_ d1_ d0_ x32 x31 x30 x29 x28 x27 x26 w_
      rintro ⟨h0_, h1_, h2_, h3_, h4_, h5_, h6_, hI⟩
      obtain rfl := h6_ d6_
      obtain rfl := h5_ d5_
      obtain rfl := h4_ d4_
      obtain rfl := h3_ d3_
      obtain rfl := h2_ d2_
      obtain rfl := h1_ d1_
      obtain rfl := h0_ d0_
      clear h0_ h1_ h2_ h3_ h4_ h5_ h6_
      refine condP (fun he => ?_) (fun he => ?_)
      · rw [if_pos he]
        exact r_fieldSt hI 2 rfl fo_iTerm_1 sc_int rfl rfl rfl fun w' hI => hI
      · rw [if_neg he]
        exact hI
    intro _ _ _ _ _ _ _ _ _ w' hI
    refine r_add (by omega) ?_
    exact ⟨⟨j + 1, _, hji, rfl, by rw [if_pos hk]; exact hrel, hI⟩, by simp [intOf]; omega⟩
  have hcur : cur = N := by
    by_cases hk : k = 1
    · rw [if_pos hk] at hrel
      have : j = vs.length := by
        have : decide (j < vs.length) = false := by
          rw [decide_eq_true hk, Bool.and_true] at hb
          exact hb
        have := of_decide_eq_false this
        omega
      rw [this, List.drop_length] at hrel
      exact hrel
    · rw [if_neg hk] at hrel
      exact hrel
  clear hrel hb
  subst hcur
  have hI := hI.rowNil t_iTerm 4
  refine ⟨fun i w' => ∃ (j : Nat) (kvc : Value) (Ls : List Heaplet) (css : List (List Value)), j ≤ ks.length ∧ i = .int .i64 j ∧ Grown 4 TrT Ls css (srenL vs (ks.take j)) ∧
      Inv w [] (.blk b1 (.cells #[.int .i64 k, .int .i64 n, .string s, kv] t_iTerm) :: .blk b2 (.cells #[.int .i64 0, .int .i64 0, .string ⟨#[]⟩, .slice none 0 0] t_iTerm) :: .blk b3 (.cells #[.int .i64 k, .int .i64 cur, .string s, kvc] t_iTerm) :: rowG kvc t_iTerm 4 css :: blks Ls.flatten) S w',
    fun i _ => ks.length - (intOf i).toNat, ⟨0, _, [], [], Nat.zero_le _, rfl, Grown.nil _ _, hI⟩, ?_⟩
  intro t7 _ _ _ _ _ _ _ _ _ _ _ _ _ _ _ _ _ _ _ w'
  rintro ⟨j, kvc, Ls, css, hj, rfl, hg, hI⟩
  refine r_fieldL hI 0 rfl fo_iTerm_3 sc_SiTerm rfl ?_
  refine r_lenSl hks sl_SiTerm ?_
  refine r_lss ?_
  refine condP (fun hji => ?_) (fun hji => ?_)
  · have hj' : j < ks.length := by omega
    have hjl : (ks.take j).length = j := by simp; omega
    have hcl := hg.hc
    rw [srenL_len] at hcl
    have hm := List.getElem_mem hj'
    have hwm := wL_mem hm
    obtain ⟨b, o, cap, c, E, fz, rfl, hS, hR⟩ := hks.at_ hj'
    refine ⟨fun D x53 x52 x51 x50 x49 x48 x47 x46 x45 x44 x43 x42 w_ => (D 0 = true → x42 = .pointer (some ⟨b3, 3, none⟩)) ∧ (D 1 = true → x43 = kvc) ∧ (D 2 = true → x44 = .pointer (some ⟨b1, 3, none⟩)) ∧ (D 3 = true → x45 = .slice (some ⟨b, o, none⟩) ks.length cap) ∧ (D 4 = true → x46 = .int .i64 j) ∧ (D 5 = true → x47 = .pointer (some ⟨b, o + j * 4, none⟩)) ∧ (D 6 = true → x48 = .agg (cellsAt c (o + j * 4) 4).toArray) ∧ (D 7 = true → x49 = v) ∧ (D 8 = true → True) ∧ (D 9 = true → True) ∧ (D 10 = true → True) ∧ (D 11 = true → x53 = .pointer (some ⟨b3, 3, none⟩)) ∧ (D 12 = true → True) ∧ ∃ M cs7 b8, (D 8 = true → x50 = .agg cs7.toArray ∧ TrT M cs7 (srenT vs ks[j])) ∧ (D 9 = true → x51 = .slice (some ⟨b8, 0, none⟩) 1 1) ∧ (D 9 = true → D 8 = true) ∧ (D 10 = true → D 9 = true) ∧ (D 12 = true → D 10 = true) ∧ (D 12 = true → D 1 = true) ∧ Inv w [] (cpItems (.blk b1 (.cells #[.int .i64 k, .int .i64 n, .string s, .slice (some ⟨b, o, none⟩) ks.length cap] t_iTerm)) (.blk b2 (.cells #[.int .i64 0, .int .i64 0, .string ⟨#[]⟩, .slice none 0 0] t_iTerm)) (.blk b3 (.cells #[.int .i64 k, .int .i64 cur, .string s, kvc] t_iTerm)) (.blk b3 (.cells #[.int .i64 k, .int .i64 cur, .string s, x52] t_iTerm)) (rowG kvc t_iTerm 4 css) (rowG x52 t_iTerm 4 (css ++ [cs7])) (blks Ls.flatten) M (.blk b8 (.cells cs7.toArray t_iTerm)) (D 8) (D 9) (D 10) (D 12)) S w_, ⟨fun h => Bool.noConfusion h, fun h => Bool.noConfusion h, fun h => Bool.noConfusion h, fun h => Bool.noConfusion h, fun h => Bool.noConfusion h, fun h => Bool.noConfusion h, fun h => Bool.noConfusion h, fun h => Bool.noConfusion h, fun h => Bool.noConfusion h, fun h => Bool.noConfusion h, fun h => Bool.noConfusion h, fun h => Bool.noConfusion h, fun h => Bool.noConfusion h, ⟨[], [], 0, fun h => Bool.noConfusion h, fun h => Bool.noConfusion h, fun h => Bool.noConfusion h, fun h => Bool.noConfusion h, fun h => Bool.noConfusion h, fun h => Bool.noConfusion h, by simpa [cpItems, blks] using hI.draw⟩⟩, ⟨?_, ?_, ?_, ?_, ?_, ?_, ?_, ?_, ?_, ?_, ?_, ?_, ?_, trivial⟩, ?_⟩
    · intro D hD_  x53 x52 x51 x50 x49 x48 x47 x46 x45 x44 x43 x42 w_
      rintro ⟨h0_, h1_, h2_, h3_, h4_, h5_, h6_, h7_, h8_, h9_, h10_, h11_, h12_, ⟨M, cs7, b8, e7, e8, k8, k9, k11, k1, hI⟩⟩
      refine r_field fo_iTerm_3 ?_
      exact ⟨fun _ => rfl, h1_, h2_, h3_, h4_, h5_, h6_, h7_, h8_, h9_, h10_, h11_, h12_, ⟨M, cs7, b8, e7, e8, k8, k9, k11, k1, hI⟩⟩
    · intro D hD_ d0_0 x53 x52 x51 x50 x49 x48 x47 x46 x45 x44 x43 x42 w_
      rintro ⟨h0_, h1_, h2_, h3_, h4_, h5_, h6_, h7_, h8_, h9_, h10_, h11_, h12_, ⟨M, cs7, b8, e7, e8, k8, k9, k11, k1, hI⟩⟩
      obtain rfl := h0_ d0_0
      have f11 : D 12 = false := Bool.eq_false_iff.2 fun h => by rw [k1 h] at hD_; cases hD_
      refine r_loadL (b := b3) hI 2 (c := (#[.int .i64 k, .int .i64 cur, .string s, kvc])) sc_SiTerm (by rw [f11]; rfl) rfl ?_
      have k1 := fun (_ : setD D 1 12 = true) => (rfl : setD D 1 1 = true)
      exact ⟨h0_, fun _ => rfl, h2_, h3_, h4_, h5_, h6_, h7_, h8_, h9_, h10_, h11_, h12_, ⟨M, cs7, b8, e7, e8, k8, k9, k11, k1, hI⟩⟩
    · intro D hD_  x53 x52 x51 x50 x49 x48 x47 x46 x45 x44 x43 x42 w_
      rintro ⟨h0_, h1_, h2_, h3_, h4_, h5_, h6_, h7_, h8_, h9_, h10_, h11_, h12_, ⟨M, cs7, b8, e7, e8, k8, k9, k11, k1, hI⟩⟩
      refine r_field fo_iTerm_3 ?_
      exact ⟨h0_, h1_, fun _ => rfl, h3_, h4_, h5_, h6_, h7_, h8_, h9_, h10_, h11_, h12_, ⟨M, cs7, b8, e7, e8, k8, k9, k11, k1, hI⟩⟩
    · intro D hD_ d2_0 x53 x52 x51 x50 x49 x48 x47 x46 x45 x44 x43 x42 w_
      rintro ⟨h0_, h1_, h2_, h3_, h4_, h5_, h6_, h7_, h8_, h9_, h10_, h11_, h12_, ⟨M, cs7, b8, e7, e8, k8, k9, k11, k1, hI⟩⟩
      obtain rfl := h2_ d2_0
      refine r_loadL hI 0 sc_SiTerm rfl rfl ?_
      exact ⟨h0_, h1_, h2_, fun _ => rfl, h4_, h5_, h6_, h7_, h8_, h9_, h10_, h11_, h12_, ⟨M, cs7, b8, e7, e8, k8, k9, k11, k1, hI⟩⟩
    · intro D hD_  x53 x52 x51 x50 x49 x48 x47 x46 x45 x44 x43 x42 w_
      rintro ⟨h0_, h1_, h2_, h3_, h4_, h5_, h6_, h7_, h8_, h9_, h10_, h11_, h12_, ⟨M, cs7, b8, e7, e8, k8, k9, k11, k1, hI⟩⟩
      exact ⟨h0_, h1_, h2_, h3_, fun _ => rfl, h5_, h6_, h7_, h8_, h9_, h10_, h11_, h12_, ⟨M, cs7, b8, e7, e8, k8, k9, k11, k1, hI⟩⟩
    · intro D hD_ d3_0 d4_1 x53 x52 x51 x50 x49 x48 x47 x46 x45 x44 x43 x42 w_
      rintro ⟨h0_, h1_, h2_, h3_, h4_, h5_, h6_, h7_, h8_, h9_, h10_, h11_, h12_, ⟨M, cs7, b8, e7, e8, k8, k9, k11, k1, hI⟩⟩
      obtain rfl := h3_ d3_0
      obtain rfl := h4_ d4_1
      refine r_indexAddr sl_SiTerm hj' ?_
      exact ⟨h0_, h1_, h2_, h3_, h4_, fun _ => rfl, h6_, h7_, h8_, h9_, h10_, h11_, h12_, ⟨M, cs7, b8, e7, e8, k8, k9, k11, k1, hI⟩⟩
    · intro D hD_ d5_0 x53 x52 x51 x50 x49 x48 x47 x46 x45 x44 x43 x42 w_
      rintro ⟨h0_, h1_, h2_, h3_, h4_, h5_, h6_, h7_, h8_, h9_, h10_, h11_, h12_, ⟨M, cs7, b8, e7, e8, k8, k9, k11, k1, hI⟩⟩
      obtain rfl := h5_ d5_0
      refine r_loadA ag_iTerm hR.length (fun j v hj => by rw [hI.cellS hS]; exact cellsAt_get rfl j v hj) ?_
      exact ⟨h0_, h1_, h2_, h3_, h4_, h5_, fun _ => rfl, h7_, h8_, h9_, h10_, h11_, h12_, ⟨M, cs7, b8, e7, e8, k8, k9, k11, k1, hI⟩⟩
    · intro D hD_  x53 x52 x51 x50 x49 x48 x47 x46 x45 x44 x43 x42 w_
      rintro ⟨h0_, h1_, h2_, h3_, h4_, h5_, h6_, h7_, h8_, h9_, h10_, h11_, h12_, ⟨M, cs7, b8, e7, e8, k8, k9, k11, k1, hI⟩⟩
      exact ⟨h0_, h1_, h2_, h3_, h4_, h5_, h6_, fun _ => rfl, h8_, h9_, h10_, h11_, h12_, ⟨M, cs7, b8, e7, e8, k8, k9, k11, k1, hI⟩⟩
    · intro D hD_ d6_0 d7_1 x53 x52 x51 x50 x49 x48 x47 x46 x45 x44 x43 x42 w_
      rintro ⟨h0_, h1_, h2_, h3_, h4_, h5_, h6_, h7_, h8_, h9_, h10_, h11_, h12_, ⟨M, cs7, b8, e7, e8, k8, k9, k11, k1, hI⟩⟩
      obtain rfl := h6_ d6_0
      obtain rfl := h7_ d7_1
      have f8 : D 9 = false := Bool.eq_false_iff.2 fun h => by rw [k8 h] at hD_; cases hD_
      have f9 : D 10 = false := Bool.eq_false_iff.2 fun h => by rw [k9 h] at f8; cases f8
      have f11 : D 12 = false := Bool.eq_false_iff.2 fun h => by rw [k11 h] at f9; cases f9
      rw [hD_, f8, f9, f11] at hI
      refine Run.call0 fn_s_l1Rename nm_s_l1Rename hI (ih _ (List.getElem_mem hj') S _ _ hR hv (by omega)) fun v' I' S w_ => ?_
      rintro ⟨rfl, cs7, M, rfl, rfl, hT⟩ _ hI
      have e7 : setD D 8 8 = true → Value.agg cs7.toArray = Value.agg cs7.toArray ∧ TrT M cs7 (srenT vs ks[j]) := fun _ => ⟨rfl, hT⟩
      have k8 := fun (_ : setD D 8 9 = true) => (rfl : setD D 8 8 = true)
      have hI : Inv w [] (cpItems (.blk b1 (.cells #[.int .i64 k, .int .i64 n, .string s, .slice (some ⟨b, o, none⟩) ks.length cap] t_iTerm)) (.blk b2 (.cells #[.int .i64 0, .int .i64 0, .string ⟨#[]⟩, .slice none 0 0] t_iTerm)) (.blk b3 (.cells #[.int .i64 k, .int .i64 cur, .string s, kvc] t_iTerm)) (.blk b3 (.cells #[.int .i64 k, .int .i64 cur, .string s, x52] t_iTerm)) (rowG kvc t_iTerm 4 css) (rowG x52 t_iTerm 4 (css ++ [cs7])) (blks Ls.flatten) M (.blk b8 (.cells cs7.toArray t_iTerm)) true (D 9) (D 10) (D 12)) S w_ := by
        rw [f8, f9, f11]
        simpa [cpItems] using hI
      exact ⟨h0_, h1_, h2_, h3_, h4_, h5_, h6_, h7_, fun _ => by first | assumption | trivial, h9_, h10_, h11_, h12_, ⟨M, cs7, b8, e7, e8, k8, k9, k11, k1, hI⟩⟩
    · intro D hD_ d8_0 x53 x52 x51 x50 x49 x48 x47 x46 x45 x44 x43 x42 w_
      rintro ⟨h0_, h1_, h2_, h3_, h4_, h5_, h6_, h7_, h8_, h9_, h10_, h11_, h12_, ⟨M, cs7, b8, e7, e8, k8, k9, k11, k1, hI⟩⟩
      have g8_ := h8_ d8_0
      have f9 : D 10 = false := Bool.eq_false_iff.2 fun h => by rw [k9 h] at hD_; cases hD_
      have f11 : D 12 = false := Bool.eq_false_iff.2 fun h => by rw [k11 h] at f9; cases f9
      obtain ⟨q7, hT⟩ := e7 d8_0
      subst q7
      rw [d8_0, hD_, f9, f11] at hI
      refine r_slice1 hI mk_SiTerm (by simp [Value.cells, hT.length]) (by omega) (by omega) fun b8 w_ hI => ?_
      have e7 : setD D 9 8 = true → Value.agg cs7.toArray = Value.agg cs7.toArray ∧ TrT M cs7 (srenT vs ks[j]) := fun _ => ⟨rfl, hT⟩
      have e8 := fun (_ : setD D 9 9 = true) => (rfl : Value.slice (some ⟨b8, 0, none⟩) 1 1 = _)
      have k8 := fun (_ : setD D 9 9 = true) => d8_0
      have k9 := fun (_ : setD D 9 10 = true) => (rfl : setD D 9 9 = true)
      have hI : Inv w [] (cpItems (.blk b1 (.cells #[.int .i64 k, .int .i64 n, .string s, .slice (some ⟨b, o, none⟩) ks.length cap] t_iTerm)) (.blk b2 (.cells #[.int .i64 0, .int .i64 0, .string ⟨#[]⟩, .slice none 0 0] t_iTerm)) (.blk b3 (.cells #[.int .i64 k, .int .i64 cur, .string s, kvc] t_iTerm)) (.blk b3 (.cells #[.int .i64 k, .int .i64 cur, .string s, x52] t_iTerm)) (rowG kvc t_iTerm 4 css) (rowG x52 t_iTerm 4 (css ++ [cs7])) (blks Ls.flatten) M (.blk b8 (.cells cs7.toArray t_iTerm)) (D 8) true (D 10) (D 12)) S w_ := by
        rw [d8_0, f9, f11]
        simpa [cpItems, Value.cells] using hI
      exact ⟨h0_, h1_, h2_, h3_, h4_, h5_, h6_, h7_, h8_, fun _ => by first | assumption | trivial, h10_, h11_, h12_, ⟨M, cs7, b8, e7, e8, k8, k9, k11, k1, hI⟩⟩
    · intro D hD_ d1_0 d9_1 d8_2 x53 x52 x51 x50 x49 x48 x47 x46 x45 x44 x43 x42 w_
      rintro ⟨h0_, h1_, h2_, h3_, h4_, h5_, h6_, h7_, h8_, h9_, h10_, h11_, h12_, ⟨M, cs7, b8, e7, e8, k8, k9, k11, k1, hI⟩⟩
      obtain rfl := h1_ d1_0
      have g9_ := h9_ d9_1
      have f11 : D 12 = false := Bool.eq_false_iff.2 fun h => by rw [k11 h] at hD_; cases hD_
      have q8 := e8 d9_1
      subst q8
      obtain ⟨_, hT⟩ := e7 d8_2
      rw [d8_2, d9_1, hD_, f11] at hI
      have hblk : ((cpItems (.blk b1 (.cells #[.int .i64 k, .int .i64 n, .string s, .slice (some ⟨b, o, none⟩) ks.length cap] t_iTerm)) (.blk b2 (.cells #[.int .i64 0, .int .i64 0, .string ⟨#[]⟩, .slice none 0 0] t_iTerm)) (.blk b3 (.cells #[.int .i64 k, .int .i64 cur, .string s, x43] t_iTerm)) (.blk b3 (.cells #[.int .i64 k, .int .i64 cur, .string s, x52] t_iTerm)) (rowG x43 t_iTerm 4 css) (rowG x52 t_iTerm 4 (css ++ [cs7])) (blks Ls.flatten) M (.blk b8 (.cells cs7.toArray t_iTerm)) true true false false))[4 + (blks Ls.flatten).length + (blks M).length]? = some (.blk b8 (.cells cs7.toArray t_iTerm)) := by
        have e4 : 4 + (blks Ls.flatten).length + (blks M).length = ((blks Ls.flatten).length + (blks M).length) + 1 + 1 + 1 + 1 := by omega
        rw [e4]
        simp only [cpItems, List.getElem?_cons_succ]
        rw [List.getElem?_append_right (by omega), Nat.add_sub_cancel_left, List.getElem?_append_right (Nat.le_refl _), Nat.sub_self]; rfl
      refine r_append hI 3 cs7 mk_SiTerm (by omega) rfl (by rw [hT.length]) (m := 1) (o := 0) ?_ hT.one (by omega) (by omega) fun v' w_ hI => ?_
      · intro i u hi
        rw [hI.cellL hblk, Nat.zero_add]
        simpa using hi
      rw [rowG_snoc] at hI
      have k9 := fun (_ : setD D 10 10 = true) => d9_1
      have k11 := fun (_ : setD D 10 12 = true) => (rfl : setD D 10 10 = true)
      have hI : Inv w [] (cpItems (.blk b1 (.cells #[.int .i64 k, .int .i64 n, .string s, .slice (some ⟨b, o, none⟩) ks.length cap] t_iTerm)) (.blk b2 (.cells #[.int .i64 0, .int .i64 0, .string ⟨#[]⟩, .slice none 0 0] t_iTerm)) (.blk b3 (.cells #[.int .i64 k, .int .i64 cur, .string s, x43] t_iTerm)) (.blk b3 (.cells #[.int .i64 k, .int .i64 cur, .string s, v'] t_iTerm)) (rowG x43 t_iTerm 4 css) (rowG v' t_iTerm 4 (css ++ [cs7])) (blks Ls.flatten) M (.blk b8 (.cells cs7.toArray t_iTerm)) (D 8) (D 9) true (D 12)) S w_ := by
        rw [d8_2, d9_1, f11]
        exact hI
      exact ⟨h0_, h1_, h2_, h3_, h4_, h5_, h6_, h7_, h8_, h9_, fun _ => by first | assumption | trivial, h11_, h12_, ⟨M, cs7, b8, e7, e8, k8, k9, k11, k1, hI⟩⟩
    · intro D hD_ d0_0 d1_1 d2_2 d3_3 d4_4 d5_5 d6_6 d7_7 d8_8 d9_9 d10_10 x53 x52 x51 x50 x49 x48 x47 x46 x45 x44 x43 x42 w_
      rintro ⟨h0_, h1_, h2_, h3_, h4_, h5_, h6_, h7_, h8_, h9_, h10_, h11_, h12_, ⟨M, cs7, b8, e7, e8, k8, k9, k11, k1, hI⟩⟩
      refine r_field fo_iTerm_3 ?_
      exact ⟨h0_, h1_, h2_, h3_, h4_, h5_, h6_, h7_, h8_, h9_, h10_, fun _ => rfl, h12_, ⟨M, cs7, b8, e7, e8, k8, k9, k11, k1, hI⟩⟩
    · intro D hD_ d11_0 d10_1 d10_2 d0_3 d1_4 d2_5 d3_6 d4_7 d5_8 d6_9 d7_10 d8_11 d9_12 d10_13 x53 x52 x51 x50 x49 x48 x47 x46 x45 x44 x43 x42 w_
      rintro ⟨h0_, h1_, h2_, h3_, h4_, h5_, h6_, h7_, h8_, h9_, h10_, h11_, h12_, ⟨M, cs7, b8, e7, e8, k8, k9, k11, k1, hI⟩⟩
      obtain rfl := h11_ d11_0
      have g10_ := h10_ d10_1
      rw [d8_11, d9_12, d10_1, hD_] at hI
      obtain ⟨va, vn, vc, hv9⟩ := Inv.rowSlice hI 3 rfl
      refine r_store hI 2 (n := 1) (by rw [hv9]; rfl) (by decide +kernel) rfl (by simp) (by rw [hv9]; simp [Value.cells, Value.oneCell']) fun w_ hI => ?_
      have hcl9 : Value.cells x52 = #[x52] := by rw [hv9]; rfl
      rw [hcl9] at hI
      have k1 := fun (_ : setD D 12 12 = true) => d1_4
      have k11 := fun (_ : setD D 12 12 = true) => d10_1
      have hI : Inv w [] (cpItems (.blk b1 (.cells #[.int .i64 k, .int .i64 n, .string s, .slice (some ⟨b, o, none⟩) ks.length cap] t_iTerm)) (.blk b2 (.cells #[.int .i64 0, .int .i64 0, .string ⟨#[]⟩, .slice none 0 0] t_iTerm)) (.blk b3 (.cells #[.int .i64 k, .int .i64 cur, .string s, kvc] t_iTerm)) (.blk b3 (.cells #[.int .i64 k, .int .i64 cur, .string s, x52] t_iTerm)) (rowG kvc t_iTerm 4 css) (rowG x52 t_iTerm 4 (css ++ [cs7])) (blks Ls.flatten) M (.blk b8 (.cells cs7.toArray t_iTerm)) (D 8) (D 9) (D 10) true) S w_ := by
        rw [d8_11, d9_12, d10_1]
        exact hI
      exact ⟨h0_, h1_, h2_, h3_, h4_, h5_, h6_, h7_, h8_, h9_, h10_, h11_, fun _ => trivial, ⟨M, cs7, b8, e7, e8, k8, k9, k11, k1, hI⟩⟩
    intro D d12_ d11_ d10_ d9_ d8_ d7_ d6_ d5_ d4_ d3_ d2_ d1_ d0_ x53 x52 x51 x50 x49 x48 x47 x46 x45 x44 x43 x42 w_
    rintro ⟨h0_, h1_, h2_, h3_, h4_, h5_, h6_, h7_, h8_, h9_, h10_, h11_, h12_, ⟨M, cs7, b8, e7, e8, k8, k9, k11, k1, hI⟩⟩
    obtain rfl := h11_ d11_
    have g10_ := h10_ d10_
    have g9_ := h9_ d9_
    have g8_ := h8_ d8_
    obtain rfl := h7_ d7_
    obtain rfl := h6_ d6_
    obtain rfl := h5_ d5_
    obtain rfl := h4_ d4_
    obtain rfl := h3_ d3_
    obtain rfl := h2_ d2_
    obtain rfl := h1_ d1_
    obtain rfl := h0_ d0_
    clear h0_ h1_ h2_ h3_ h4_ h5_ h6_ h7_ h8_ h9_ h10_ h11_ h12_
    obtain ⟨_, hT⟩ := e7 d8_
    rw [d8_, d9_, d10_, d12_] at hI
    refine r_add (by omega) ?_
    refine ⟨⟨j + 1, x52, Ls ++ [M], css ++ [cs7], hj', rfl, ?_, ?_⟩, by simp [intOf]; omega⟩
    · rw [srenL_take vs ks j hj']
      exact hg.snoc hT hT.length
    · simp only [List.flatten_append, List.flatten_cons, List.flatten_nil, List.append_nil, blks_append]
      refine hI.sub ?_
      simp only [cpItems]
      rw [← List.append_assoc]
      exact (((List.sublist_append_left _ _).cons_cons _).cons_cons _).cons_cons _ |>.cons_cons _
  · have : j = ks.length := by omega
    subst this
    rw [List.take_length] at hg
    obtain ⟨va, vn, vc, hvk⟩ := hI.rowSlice 3 rfl
    have hv1 : kvc.oneCell' = true := by rw [hvk]; rfl
    refine r_loadW hI 2 ag_iTerm rfl rfl ?_
    refine r_storeW hI 1 rfl ag_iTerm rfl rfl ?_ fun w' hI => ?_
    · intro u hu
      have hu' : u ∈ ([.int .i64 k, .int .i64 cur, .string s, kvc] : List Value) := hu
      simp at hu'
      rcases hu' with rfl | rfl | rfl | rfl <;> first | rfl | exact hv1
    refine loadV_W hI 1 ag_iTerm rfl rfl ?_
    have hI : Inv w [] ([] ++ (rowG kvc t_iTerm 4 css :: blks Ls.flatten)) S w' := hI.sub (List.sublist_append_right [_, _, _] _)
    obtain ⟨L, hT, hI⟩ := Inv.rowTree hI hg
    exact ⟨_, _, _, rfl, hI, Ext.refl _ _ _, rfl, _, L, rfl, rfl, TrT.iff.2 ⟨kvc, by rw [srenT, ← hN]; rfl, by rw [srenT]; exact h1, by rw [srenT, ← hN]; exact hNi, by rw [srenT]; exact hs, by rw [srenT]; exact hT⟩⟩
end

end Go.Proofs.YtaaihodhhacapaaGreat

/- spec.RenumberClause: lists and clauses. -/
namespace Go.Proofs.YtaaihodhhacapaaGreat
open Go Go.RowKit
section
variable {w : World} {K : Value → World → Prop}
attribute [local irreducible] Run
theorem r_buildClause0 (hk : K (.agg #[.int .i64 0, .int .i64 0, .string ⟨#[]⟩, .slice none 0 0, .slice none 0 0]) w) : Run Tryz.prog (sBuild t_iClause []) w K := by
  refine Run.of (v := .agg #[.int .i64 0, .int .i64 0, .string ⟨#[]⟩, .slice none 0 0, .slice none 0 0]) (w' := w) ?_ hk
  unfold sBuild
  rw [Sem.run_bind, run_build w t_iClause _ #[.int .i64 0, .int .i64 0, .string ⟨#[]⟩, .slice none 0 0, .slice none 0 0] (by kernel_rfl), Result.andThen_ok]
  rfl
end
theorem svars_split (ts : List T) (j : Nat) (h : j < ts.length) (l : List Int) : svarsL (ts.drop j) l = svarsL (ts.drop (j + 1)) (svarsT ts[j] l) := by
  rw [List.drop_eq_getElem_cons h, svarsL]
section
attribute [local irreducible] Run CondV GuardV LoadV
theorem l1Renumber_calls {ts : List T} {S : Store} {v : Value} (h : RdSl S 4 (RdT S) v ts) (hw : ts.length + wL ts ≤ 1048577) : Tri Tryz.prog n_s_l1Renumber [v] [] S (PostS 4 TrT S (srenL (svarsL ts []) ts)) := by
  intro w hI
  have hlen := h.le
  simp only [maxLen] at hlen
  have hcl := cnt_wL ts
  refine calls_s_l1Renumber ?_
  unfold sh_s_l1Renumber
  refine r_slice0 hI mk_Sint fun v0 w' hI => ?_
  refine ⟨fun i t w' => ∃ (j : Nat) (l : List Int), j ≤ ts.length ∧ i = .int .i64 j ∧ svarsL (ts.drop j) l = svarsL ts [] ∧ l.length + cntL (ts.drop j) ≤ 3000000 ∧ Inv w [] [rowI t l] S w',
    fun i _ _ => ts.length - (intOf i).toNat, ⟨0, [], Nat.zero_le _, rfl, rfl, by simp only [List.drop_zero, List.length_nil]; omega, hI⟩, ?_⟩
  intro t4 _ _ t3 _ _ _ _ _ _ _ _ _ _ w'
  rintro ⟨j, l, hj, rfl, hvs, hl, hI⟩
  refine r_lenSl h sl_SiTerm ?_
  refine r_lss ?_
  refine condP (fun hji => ?_) (fun hji => ?_)
  · have hj' : j < ts.length := by omega
    rw [cntL_split ts j hj'] at hl
    rw [svars_split ts j hj'] at hvs
    have hc1 := cntL_pos (ts.drop (j + 1))
    have hc2 := svarsT_le ts[j] l
    refine r_elem hI h sl_SiTerm ag_iTerm hj' (fun _ _ => RdT.length) fun cs' hcs' => ?_
    refine Run.call (A := []) fn_s_l1Vars nm_s_l1Vars hI (l1Vars_calls _ S cs' t3 l hcs' (by omega)) fun v' I' S' w' => ?_
    rintro ⟨rfl, rfl⟩ _ hI
    refine r_add (by omega) ?_
    exact ⟨⟨j + 1, _, hj', rfl, hvs, by omega, hI⟩, by simp [intOf]; omega⟩
  have : j = ts.length := by omega
  subst this
  rw [List.drop_length, svarsL] at hvs
  rw [List.drop_length] at hl
  subst hvs
  have hl' : (svarsL ts []).length ≤ 1000000000 := by
    have : cntL ([] : List T) = 0 := rfl
    omega
  clear hl
  generalize svarsL ts [] = vs at hI hl' ⊢
  obtain ⟨S1, hle1, hrd, hI, _⟩ := Inv.lend (A := []) hI
  have hrd := hrd.ints
  have h := h.mono hle1 fun _ _ h => h.mono hle1
  refine r_slice0 hI mk_SiTerm fun v1 w' hI => ?_
  refine ⟨fun i t w' => ∃ (k : Nat) (Ls : List Heaplet) (css : List (List Value)), k ≤ ts.length ∧ i = .int .i64 k ∧ Grown 4 TrT Ls css (srenL vs (ts.take k)) ∧ Inv w [] (rowG t t_iTerm 4 css :: blks Ls.flatten) S1 w',
    fun i _ _ => ts.length - (intOf i).toNat, ⟨0, [], [], Nat.zero_le _, rfl, Grown.nil _ _, hI⟩, ?_⟩
  intro t6 _ _ t5 _ _ _ _ _ _ _ _ _ _ _ _ _ w'
  rintro ⟨k, Ls, css, hk, rfl, hg, hI⟩
  refine r_lenSl h sl_SiTerm ?_
  refine r_lss ?_
  refine condP (fun hki => ?_) (fun hki => ?_)
  · have hk' : k < ts.length := by omega
    have htl : (ts.take k).length = k := by simp; omega
    have hcl := hg.hc
    rw [srenL_len] at hcl
    have hm := List.getElem_mem hk'
    have hwm := wL_mem hm
    refine r_elem hI h sl_SiTerm ag_iTerm hk' (fun _ _ => RdT.length) fun cs hcs => ?_
    refine Run.call0 fn_s_l1Rename nm_s_l1Rename hI (l1Rename_calls vs hl' _ S1 cs _ hcs hrd (by omega)) fun v' I' S' w' => ?_
    rintro ⟨rfl, cs', L, rfl, rfl, hT⟩ _ hI
    refine r_append1 hI 0 cs' mk_SiTerm (by omega) (by omega) rfl hT.length hT.one (by omega) (by omega) fun v' w' hI => ?_
    refine r_add (by omega) ?_
    refine ⟨⟨k + 1, Ls ++ [L], css ++ [cs'], hk', rfl, ?_, ?_⟩, by simp [intOf]; omega⟩
    · rw [srenL_take vs ts k hk']
      exact hg.snoc hT hT.length
    · simp only [List.flatten_append, List.flatten_cons, List.flatten_nil, List.append_nil, blks_append]
      exact hI
  · have : k = ts.length := by omega
    subst this
    rw [List.take_length] at hg
    obtain ⟨L, hT, hI⟩ := Inv.rowTree (A := []) hI hg
    exact ⟨_, _, _, rfl, hI.less hle1, Ext.refl _ _ _, rfl, _, rfl, hT⟩
abbrev PostR (c : C) : Value → List Item → Store → Prop := fun v I' S' => I' = [] ∧ ∃ cs, v = .agg cs.toArray ∧ RdC S' cs c
theorem RdC.zero (S : Store) : RdC S [.int .i64 0, .int .i64 0, .string ⟨#[]⟩, .slice none 0 0, .slice none 0 0] ⟨⟨0, 0, ⟨#[]⟩, []⟩, []⟩ :=
  ⟨[.int .i64 0, .int .i64 0, .string ⟨#[]⟩, .slice none 0 0], .slice none 0 0, rfl, RdT.iff.2 ⟨_, rfl, by simp [inI, T.kind], by simp [inI, T.n], by rw [T.name]; decide +kernel, ⟨none, 0, rfl, Nat.le_refl _, Nat.zero_le _, .inl rfl⟩⟩, ⟨none, 0, rfl, Nat.le_refl _, Nat.zero_le _, .inl rfl⟩⟩
end

end Go.Proofs.YtaaihodhhacapaaGreat
