/- What the clauses for a name call: both sides. -/
import Derived.Test.YtnoieadimkgjcaaGraph
namespace Go.Proofs.Ytnoieadimkgjcaa
open Go Go.RowKit
attribute [local irreducible] Run CondV GuardV LoadV

theorem i_called_calls {ts : List T} {S : Store} {u v : Value} (l : List Pd) (h : RdSl S 4 (RdT S) u ts) (hl : l.length + ts.length ≤ 1000000000) : Tri Try.prog n_i_called [u, v] [rowP v l] S (PostP S (goalsP l ts)) := by
  intro w hI
  obtain ⟨X, hX⟩ : ∃ X, X = feet [rowP v l] := ⟨_, rfl⟩
  rw [← hX] at hI ⊢
  refine calls_i_called ?_
  unfold sh_i_called
  refine r_lenSl h sl_SiTerm ?_
  refine ⟨fun i t w' => ∃ (k : Nat) (m : List Pd), k ≤ ts.length ∧ i = .int .i64 k ∧ goalsP m (ts.drop k) = goalsP l ts ∧ m.length ≤ l.length + k ∧ Inv w X [rowP t m] S w', fun i _ _ => ts.length - (intOf i).toNat, ⟨0, l, Nat.zero_le _, rfl, rfl, Nat.le_refl _, hI⟩, ?_⟩
  intro t9 _ t1 _ _ _ _ _ _ _ _ _ _ w'
  rintro ⟨k, m, hk, rfl, hrel, hml, hI⟩
  refine r_lss ?_
  refine condP (fun hki => ?_) (fun hki => ?_)
  · have hk' : k < ts.length := by omega
    rw [goalsP_drop m ts k hk'] at hrel
    refine ⟨fun t w' => Inv w X [rowP t (if plainB ts[k] = true then addP m (predT ts[k]) else m)] S w', ?_, ?_⟩
    · refine r_elem hI h sl_SiTerm ag_iTerm hk' (fun _ _ => RdT.length) fun cs hcs => ?_
      have hlc := hcs.length
      refine r_alloc hI zo_iTerm fun b6 w' hI => ?_
      refine r_storeW hI 1 rfl ag_iTerm (by simpa using hlc) rfl (by simpa using hcs.one) fun w' hI => ?_
      refine r_loadW hI 1 ag_iTerm rfl (by simpa using hlc) ?_
      refine Run.callPure fn_i_isPlain nm_i_isPlain hI (isPlain_calls hcs) fun w' hI => ?_
      refine condV (fun hb => ?_) (fun hb => ?_)
      · refine r_loadW hI 1 ag_iTerm rfl (by simpa using hlc) ?_
        refine Run.callPure fn_i_pred nm_i_pred hI (i_pred_calls hcs) fun w' hI => ?_
        have hI := hI.pick [true, false]
        refine Run.call (A := []) fn_i_addPred nm_i_addPred hI (addPred_calls (predT ts[k]) m t1 S (by omega)) fun v' I' S' w' => ?_
        rintro ⟨rfl, rfl⟩ _ hI
        rw [if_pos hb]
        exact hI
      · rw [if_neg (by rw [hb]; decide)]
        exact hI.pick [true, false]
    · intro t0 _ _ _ _ _ _ _ _ _ w' hI
      refine r_add (by omega) ?_
      refine ⟨⟨k + 1, _, hk', rfl, hrel, ?_, hI⟩, by simp [intOf]; omega⟩
      have := addP_len m (predT ts[k])
      split <;> omega
  · have : k = ts.length := by omega
    subst this
    rw [List.drop_length] at hrel
    have hrel : m = goalsP l ts := hrel
    rw [← hrel]
    exact ⟨_, _, _, rfl, hI, Ext.refl _ _ _, rfl, rfl⟩

theorem wP_at : ∀ (p : List C) (k : Nat) (h : k < p.length), p[k].body.length + (gPs (p.drop (k + 1))).length = (gPs (p.drop k)).length := by
  intro p k h
  rw [List.drop_eq_getElem_cons h, gPs_cons]

theorem s_l14Calls_calls {p : List C} {S : Store} {v : Value} (x : Pd) (h : RdSl S 5 (RdC S) v p) (hw : wP p ≤ 1100000) : Tri Try.prog n_s_l14Calls [v, .agg x.cells.toArray] [] S (PostP S (callsP p x)) := by
  intro w hI
  have hlen := h.le
  simp only [maxLen] at hlen
  have hg := gPs_le p
  obtain ⟨xs, xn⟩ := x
  refine calls_s_l14Calls ?_
  unfold sh_s_l14Calls
  refine r_box hI fun b3 w' hI => ?_
  refine r_slice0 hI mk_SiPred fun v0 w' hI => ?_
  refine ⟨fun i t w' => ∃ (k : Nat) (l : List Pd), k ≤ p.length ∧ i = .int .i64 k ∧ callsFrom l (p.drop k) ⟨xs, xn⟩ = callsP p ⟨xs, xn⟩ ∧ l.length + (gPs (p.drop k)).length ≤ 1100000 ∧
      Inv w [] [.blk b3 (.cells #[.string xs, .int .i64 xn] t_iPred), rowP t l] S w', fun i _ _ => p.length - (intOf i).toNat, ⟨0, [], Nat.zero_le _, rfl, rfl, by simp; omega, hI⟩, ?_⟩
  intro t6 _ _ t5 _ _ _ _ _ _ _ t21 t20 t19 t18 t17 t16 t15 t14 _ _ _ _ w'
  rintro ⟨k, l, hk, rfl, hrel, hl, hI⟩
  refine r_lenSl h sl_SiClause ?_
  refine r_lss ?_
  refine condP (fun hki => ?_) (fun hki => ?_)
  · have hk' : k < p.length := by omega
    rw [callsFrom_drop l p _ k hk'] at hrel
    have hgk := wP_at p k hk'
    have hgl := goalsP_len p[k].body l
    refine ⟨fun t w' => Inv w [] [.blk b3 (.cells #[.string xs, .int .i64 xn] t_iPred), rowP t (if eqPd (predT p[k].head) ⟨xs, xn⟩ = true then goalsP l p[k].body else l)] S w', ?_, ?_⟩
    · obtain ⟨b, o, cap, c, E, fz, rfl, hS, hR⟩ := h.at_ hk'
      obtain ⟨hd, ks2, hcs, h1, h2⟩ := hR
      obtain ⟨kv, rfl, _, _, hs1, hk1⟩ := RdT.iff.1 h1
      refine ⟨fun D x21 x20 x19 x18 x17 x16 x15 x14 w_ => (D 0 = true → x14 = .slice (some ⟨b, o, none⟩) p.length cap) ∧ (D 1 = true → x15 = .int .i64 k) ∧ (D 2 = true → x16 = .pointer (some ⟨b, o + k * 5, none⟩)) ∧ (D 3 = true → x17 = .pointer (some ⟨b, o + k * 5, none⟩)) ∧ (D 4 = true → x18 = .agg #[.int .i64 p[k].head.kind, .int .i64 p[k].head.n, .string p[k].head.name, kv]) ∧ (D 5 = true → x19 = .agg #[.string p[k].head.name, .int .i64 p[k].head.kids.length]) ∧ (D 6 = true → x20 = .agg #[.string xs, .int .i64 xn]) ∧ (D 7 = true → x21 = .bool (eqPd (predT p[k].head) ⟨xs, xn⟩)) ∧ Inv w [] [.blk b3 (.cells #[.string xs, .int .i64 xn] t_iPred), rowP t5 l] S w_, ⟨fun h => Bool.noConfusion h, fun h => Bool.noConfusion h, fun h => Bool.noConfusion h, fun h => Bool.noConfusion h, fun h => Bool.noConfusion h, fun h => Bool.noConfusion h, fun h => Bool.noConfusion h, fun h => Bool.noConfusion h, hI.draw⟩, ⟨?_, ?_, ?_, ?_, ?_, ?_, ?_, ?_, trivial⟩, ?_⟩
      · intro D hD_  x21 x20 x19 x18 x17 x16 x15 x14 w_
        rintro ⟨h0_, h1_, h2_, h3_, h4_, h5_, h6_, h7_, hI⟩
        exact ⟨fun _ => rfl, h1_, h2_, h3_, h4_, h5_, h6_, h7_, hI⟩
      · intro D hD_  x21 x20 x19 x18 x17 x16 x15 x14 w_
        rintro ⟨h0_, h1_, h2_, h3_, h4_, h5_, h6_, h7_, hI⟩
        exact ⟨h0_, fun _ => rfl, h2_, h3_, h4_, h5_, h6_, h7_, hI⟩
      · intro D hD_ d0_0 d1_1 x21 x20 x19 x18 x17 x16 x15 x14 w_
        rintro ⟨h0_, h1_, h2_, h3_, h4_, h5_, h6_, h7_, hI⟩
        obtain rfl := h0_ d0_0
        obtain rfl := h1_ d1_1
        refine r_indexAddr sl_SiClause hk' ?_
        exact ⟨h0_, h1_, fun _ => rfl, h3_, h4_, h5_, h6_, h7_, hI⟩
      · intro D hD_ d2_0 x21 x20 x19 x18 x17 x16 x15 x14 w_
        rintro ⟨h0_, h1_, h2_, h3_, h4_, h5_, h6_, h7_, hI⟩
        obtain rfl := h2_ d2_0
        refine r_field fo_iClause_0 ?_
        exact ⟨h0_, h1_, h2_, fun _ => rfl, h4_, h5_, h6_, h7_, hI⟩
      · intro D hD_ d3_0 x21 x20 x19 x18 x17 x16 x15 x14 w_
        rintro ⟨h0_, h1_, h2_, h3_, h4_, h5_, h6_, h7_, hI⟩
        obtain rfl := h3_ d3_0
        refine r_loadA (cs := [.int .i64 p[k].head.kind, .int .i64 p[k].head.n, .string p[k].head.name, kv]) ag_iTerm rfl (fun j v hj => by rw [hI.cellS hS]; exact cellsAt_get hcs j v (by match j, hj with | 0, hj => exact hj | 1, hj => exact hj | 2, hj => exact hj | 3, hj => exact hj | j + 4, hj => simp at hj)) ?_
        exact ⟨h0_, h1_, h2_, h3_, fun _ => rfl, h5_, h6_, h7_, hI⟩
      · intro D hD_ d4_0 x21 x20 x19 x18 x17 x16 x15 x14 w_
        rintro ⟨h0_, h1_, h2_, h3_, h4_, h5_, h6_, h7_, hI⟩
        obtain rfl := h4_ d4_0
        refine Run.callPure fn_s_l14Of nm_s_l14Of hI (s_l14Of_calls h1) fun w_ hI => ?_
        exact ⟨h0_, h1_, h2_, h3_, h4_, fun _ => rfl, h6_, h7_, hI⟩
      · intro D hD_  x21 x20 x19 x18 x17 x16 x15 x14 w_
        rintro ⟨h0_, h1_, h2_, h3_, h4_, h5_, h6_, h7_, hI⟩
        refine r_loadW hI 0 ag_iPred rfl rfl ?_
        exact ⟨h0_, h1_, h2_, h3_, h4_, h5_, fun _ => rfl, h7_, hI⟩
      · intro D hD_ d5_0 d6_1 x21 x20 x19 x18 x17 x16 x15 x14 w_
        rintro ⟨h0_, h1_, h2_, h3_, h4_, h5_, h6_, h7_, hI⟩
        obtain rfl := h5_ d5_0
        obtain rfl := h6_ d6_1
        refine r_peql ?_
        exact ⟨h0_, h1_, h2_, h3_, h4_, h5_, h6_, fun _ => rfl, hI⟩
      intro D d7_ d6_ d5_ d4_ d3_ d2_ d1_ d0_ x21 x20 x19 x18 x17 x16 x15 x14 w_
      rintro ⟨h0_, h1_, h2_, h3_, h4_, h5_, h6_, h7_, hI⟩
      obtain rfl := h7_ d7_
      obtain rfl := h6_ d6_
      obtain rfl := h5_ d5_
      obtain rfl := h4_ d4_
      obtain rfl := h3_ d3_
      obtain rfl := h2_ d2_
      obtain rfl := h1_ d1_
      obtain rfl := h0_ d0_
      clear h0_ h1_ h2_ h3_ h4_ h5_ h6_ h7_
      refine condV (fun hb => ?_) (fun hb => ?_)
      · refine r_indexAddr sl_SiClause hk' ?_
        refine r_field fo_iClause_1 ?_
        refine r_load sc_SiTerm (by rw [hI.cellS hS]; exact cellsAt_get hcs 4 _ rfl) ?_
        refine Run.call (A := [_]) fn_s_l14Goals nm_s_l14Goals hI (s_l14Goals_calls l h2 (by omega)) fun v' I' S' w' => ?_
        rintro ⟨rfl, rfl⟩ _ hI
        rw [if_pos hb]
        exact hI
      · rw [if_neg (by rw [hb]; decide)]
        exact hI
    · intro t5 _ _ _ _ _ _ _ _ _ _ _ _ _ _ _ w' hI
      refine r_add (by omega) ?_
      refine ⟨⟨k + 1, _, hk', rfl, hrel, ?_, hI⟩, by simp [intOf]; omega⟩
      split <;> omega
  · have : k = p.length := by omega
    subst this
    rw [List.drop_length] at hrel
    have hrel : l = callsP p ⟨xs, xn⟩ := hrel
    rw [← hrel]
    exact ⟨_, _, _, rfl, hI.pick [false, true], Ext.refl _ _ _, rfl, rfl⟩

/- the program's side goes over the clauses' numbers -/
def callsAt (p : List C) (l : List Pd) (ns : List Int) : List Pd := ns.foldl (fun l n => match p[n.toNat]? with | some c => goalsP l c.body | none => l) l
theorem callsAt_pos (p : List C) (x : Pd) : ∀ (q : List C) (k : Nat) (l : List Pd), p.drop k = q → callsAt p l (posOf (fun c => eqPd (predT c.head) x) q k) = callsFrom l q x
  | [], k, l, _ => rfl
  | c :: q, k, l, e => by
    have hk : k < p.length := by
      have : (p.drop k).length = (c :: q).length := by rw [e]
      simp at this; omega
    have hc : p[k]? = some c := by
      have := List.drop_eq_getElem_cons hk
      rw [e] at this
      rw [List.getElem?_eq_getElem hk]
      simp only [List.cons.injEq] at this
      rw [← this.1]
    have e' : p.drop (k + 1) = q := by rw [← List.drop_drop, e]; rfl
    have hrec := callsAt_pos p x q (k + 1)
    rw [posOf]
    by_cases hx : eqPd (predT c.head) x = true
    · rw [if_pos hx]
      have : callsAt p l ((k : Int) :: posOf (fun c => eqPd (predT c.head) x) q (k + 1)) = callsAt p (goalsP l c.body) (posOf (fun c => eqPd (predT c.head) x) q (k + 1)) := by
        simp only [callsAt, List.foldl_cons, Int.toNat_natCast, hc]
      rw [this, hrec _ e']
      show _ = callsFrom (if eqPd (predT c.head) x = true then goalsP l c.body else l) q x
      rw [if_pos hx]
    · rw [if_neg hx, hrec _ e']
      show _ = callsFrom (if eqPd (predT c.head) x = true then goalsP l c.body else l) q x
      rw [if_neg hx]
theorem gP_at (p : List C) (k : Nat) (h : k < p.length) : p[k].body.length ≤ (gPs p).length := by
  have h1 := wP_at p k h
  have h2 : (gPs p).length = (gPs (p.take k)).length + (gPs (p.drop k)).length := by
    conv => lhs; rw [← List.take_append_drop k p]
    rw [gPs, List.flatMap_append, List.length_append]; rfl
  omega
def bodiesN (p : List C) (ns : List Int) : Nat := (ns.map fun n => match p[n.toNat]? with | some c => c.body.length | none => 0).sum
theorem bodiesN_pos (p : List C) (f : C → Bool) : ∀ (q : List C) (k : Nat), p.drop k = q → bodiesN p (posOf f q k) ≤ (gPs q).length
  | [], k, _ => Nat.zero_le _
  | c :: q, k, e => by
    have hk : k < p.length := by
      have : (p.drop k).length = (c :: q).length := by rw [e]
      simp at this; omega
    have hc : p[k]? = some c := by
      have := List.drop_eq_getElem_cons hk
      rw [e] at this
      rw [List.getElem?_eq_getElem hk]
      simp only [List.cons.injEq] at this
      rw [← this.1]
    have e' : p.drop (k + 1) = q := by rw [← List.drop_drop, e]; rfl
    have hrec := bodiesN_pos p f q (k + 1) e'
    rw [posOf, gPs_cons]
    split
    · have : bodiesN p ((k : Int) :: posOf f q (k + 1)) = c.body.length + bodiesN p (posOf f q (k + 1)) := by
        simp only [bodiesN, List.map_cons, List.sum_cons, Int.toNat_natCast, hc]
      omega
    · omega

theorem i_callsOf_calls {p : List C} {S : Store} {v : Value} (x : Pd) (h : RdSl S 5 (RdC S) v p) (hp : p.length ≤ 1100000) (hw : wP p ≤ 1100000) : Tri Try.prog n_i_callsOf [v, .agg x.cells.toArray] [] S (PostP S (callsP p x)) := by
  intro w hI
  have hg := gPs_le p
  have hcall := callsAt_pos p x p 0 [] rfl
  have hb := bodiesN_pos p (fun c => eqPd (predT c.head) x) p 0 rfl
  have hn := posOf_len (fun c => eqPd (predT c.head) x) p 0
  have hat := posOf_at (fun c => eqPd (predT c.head) x) p 0
  obtain ⟨xs, xn⟩ := x
  refine calls_i_callsOf ?_
  unfold sh_i_callsOf
  refine r_box hI fun b3 w' hI => ?_
  refine r_loadW hI 0 ag_iPred rfl rfl ?_
  refine Run.call0 fn_i_clausesFor nm_i_clausesFor hI (clausesFor_calls ⟨xs, xn⟩ h (by omega)) fun v1 I' S2 w_ => ?_
  rintro ⟨rfl, rfl⟩ _ hI
  generalize posOf (fun c => eqPd (predT c.head) ⟨xs, xn⟩) p 0 = ns at hcall hb hn hat hI
  have hI : Inv w [] ([.blk b3 (.cells #[.string xs, .int .i64 xn] t_iPred)] ++ [rowI v1 ns]) S2 w_ := hI
  obtain ⟨S1, hle, hrd, hI, _⟩ := hI.lend
  have hr := hrd.ints
  have h' := h.monoC hle
  refine r_lenSl hr sl_Sint ?_
  refine ⟨fun i t w' => ∃ (k : Nat) (l : List Pd), k ≤ ns.length ∧ i = .int .i64 k ∧ callsAt p l (ns.drop k) = callsP p ⟨xs, xn⟩ ∧ l.length + bodiesN p (ns.drop k) ≤ 1100000 ∧
      Inv w [] [.blk b3 (.cells #[.string xs, .int .i64 xn] t_iPred), rowP t l] S1 w', fun i _ _ => ns.length - (intOf i).toNat, ⟨0, [], Nat.zero_le _, rfl, hcall, by simp; omega, hI.rowNil t_iPred 2⟩, ?_⟩
  intro t12 _ t5 _ _ _ _ _ _ _ _ _ _ _ w'
  rintro ⟨k, l, hk, rfl, hrel, hl, hI⟩
  refine r_lss ?_
  refine condP (fun hki => ?_) (fun hki => ?_)
  · have hk' : k < ns.length := by omega
    obtain ⟨j, _, hj0, hj, _⟩ := hat ns[k] (List.getElem_mem hk')
    have hj0 : ns[k] = (j : Int) := by omega
    rw [List.drop_eq_getElem_cons hk'] at hrel hl
    have hpj : p[ns[k].toNat]? = some p[j] := by rw [hj0, Int.toNat_natCast, List.getElem?_eq_getElem hj]
    have hrel : callsAt p (goalsP l p[j].body) (ns.drop (k + 1)) = callsP p ⟨xs, xn⟩ := by
      rw [← hrel]
      simp only [callsAt, List.foldl_cons, hpj]
    have hl : l.length + (p[j].body.length + bodiesN p (ns.drop (k + 1))) ≤ 1100000 := by
      simp only [bodiesN, List.map_cons, List.sum_cons, hpj] at hl
      exact hl
    have hgl := goalsP_len p[j].body l
    refine r_elem1 hI hr sl_Sint sc_int hk' (fun cs hcs => hcs) ?_
    rw [hj0]
    obtain ⟨b, o, cap, c, E, fz, rfl, hS, hR⟩ := h'.at_ hj
    obtain ⟨hd, ks2, hcs, h1, h2⟩ := hR
    obtain ⟨kv, rfl, _⟩ := RdT.iff.1 h1
    refine r_indexAddr sl_SiClause hj ?_
    refine r_field fo_iClause_1 ?_
    refine r_load sc_SiTerm (by rw [hI.cellS hS]; exact cellsAt_get hcs 4 _ rfl) ?_
    refine Run.call (A := [_]) fn_i_called nm_i_called hI (i_called_calls l h2 (by omega)) fun v' I' S' w' => ?_
    rintro ⟨rfl, rfl⟩ _ hI
    refine r_add (by omega) ?_
    exact ⟨⟨k + 1, _, hk', rfl, hrel, by omega, hI⟩, by simp [intOf]; omega⟩
  · have : k = ns.length := by omega
    subst this
    rw [List.drop_length] at hrel
    have hrel : l = callsP p ⟨xs, xn⟩ := hrel
    rw [← hrel]
    exact ⟨_, _, _, rfl, (hI.less hle).pick [false, true], Ext.refl _ _ _, rfl, rfl⟩

end Go.Proofs.Ytnoieadimkgjcaa
