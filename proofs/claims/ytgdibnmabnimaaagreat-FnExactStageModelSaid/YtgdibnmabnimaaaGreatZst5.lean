/- impl.compare: the standard order. -/
import Derived.Test.YtgdibnmabnimaaaGreatZst4
namespace Go.Proofs.YtgdibnmabnimaaaGreat
open Go Go.RowKit
def rkI (t : T) : Int := if t.kind = 1 then 0 else if t.kind = 2 then 1 else if t.kids.length = 0 then 2 else 3
theorem rkI_eq {t : T} (h : okO t) : rkI t = rkS t - 1 := by
  rcases okO_own h with ⟨hk, _, hks⟩ | ⟨hk, _⟩
  · rw [rkS_leaf hks]
    rcases hk with hk | hk
    · rw [rkI, if_pos hk]; omega
    · rw [rkI, if_neg (by omega), if_pos hk]; omega
  · rw [rkI, if_neg (by omega), if_neg (by omega), rkS]
    by_cases h0 : t.kids.length = 0
    · rw [if_pos h0, if_neg (by omega)]; omega
    · rw [if_neg h0, if_pos ⟨hk, by omega⟩]; rfl
def orL : List Int → Int
  | [] => 0
  | x :: xs => lexC x (orL xs)
theorem lexC_assoc (a b c : Int) : lexC (lexC a b) c = lexC a (lexC b c) := by
  unfold lexC
  by_cases h : a = 0
  · subst h; simp
  · simp [h]
theorem cmp_or {t u : T} (ht : okO t) (hu : okO u) : orL [lessI (rkI t) (rkI u), lessI t.n u.n, lessI t.kids.length u.kids.length, beforeS t.name u.name, cmpL t.kids u.kids] = cmpT t u := by
  have e : lessI (rkI t) (rkI u) = lessI (rkS t) (rkS u) := by
    rw [rkI_eq ht, rkI_eq hu]
    have h1 := lessI_cases (rkS t - 1) (rkS u - 1)
    have h2 := lessI_cases (rkS t) (rkS u)
    omega
  rw [e, cmpT_def, hdC]
  simp only [orL, lexC_zr, lexC_assoc]
section
variable {P : Program} {w w0 : World} {X : List Nat} {L : List Item} {S : Store} {K : Value → World → Prop}
attribute [local irreducible] Run CondV GuardV LoadV
theorem r_slice5 (h : Inv w0 X L S w) {a b c d e : Int}
    (hk : ∀ b5 w', Inv w0 X (L ++ [.blk b5 (.cells #[.int .i64 a, .int .i64 b, .int .i64 c, .int .i64 d, .int .i64 e] t_int)]) S w' → K (.slice (some ⟨b5, 0, none⟩) 5 5) w') :
    Run Tryz.prog (sBuildSlice t_Sint 5 [(0, .int .i64 a), (1, .int .i64 b), (2, .int .i64 c), (3, .int .i64 d), (4, .int .i64 e)]) w K := by
  obtain ⟨hu, i, hi, hz, hs, hb, hzs⟩ := mkOf_some mk_Sint
  refine Run.of (v := .slice (some ⟨w.heap.size, 0, none⟩) 5 5) (w' := { w with heap := w.heap.push (.cells #[.int .i64 a, .int .i64 b, .int .i64 c, .int .i64 d, .int .i64 e] t_int) }) ?_ (hk _ _ (h.alloc _))
  have hbase : (Array.range 5).map ((Value.int .i64 0).cells[· % (Value.int .i64 0).cells.size]!) = #[.int .i64 0, .int .i64 0, .int .i64 0, .int .i64 0, .int .i64 0] := by kernel_rfl
  have hf : Instr.fill (fun i => some (i, 1)) ((Array.range 5).map ((Value.int .i64 0).cells[· % (Value.int .i64 0).cells.size]!)) [(0, .int .i64 a), (1, .int .i64 b), (2, .int .i64 c), (3, .int .i64 d), (4, .int .i64 e)] = some #[.int .i64 a, .int .i64 b, .int .i64 c, .int .i64 d, .int .i64 e] := by
    rw [hbase]; rfl
  simp [sBuildSlice, Instr.buildSlice, run_underlying hu, sizeOf, typeInfo, hi, hs, zeroValue, hz, hf, newRow, newObj, Sem.run]
end
section
attribute [local irreducible] Run CondV GuardV LoadV
theorem isNaN_int_calls (a : Int) (S : Store) : Pure Tryz.prog n_x_isNaN_int [.int .i64 a] S (.bool false) := by
  intro w hI
  refine calls_x_isNaN_int ?_
  unfold sh_x_isNaN_int
  refine r_neq (done hI ?_)
  simp
theorem isNaN_string_calls (a : ByteArray) (S : Store) : Pure Tryz.prog n_x_isNaN_string [.string a] S (.bool false) := by
  intro w hI
  refine calls_x_isNaN_string ?_
  unfold sh_x_isNaN_string
  refine r_sneq (done hI ?_)
  simp
theorem Compare_int_calls (a b : Int) (S : Store) : Pure Tryz.prog n_x_Compare_int [.int .i64 a, .int .i64 b] S (.int .i64 (lessI a b)) := by
  intro w hI
  refine calls_x_Compare_int ?_
  unfold sh_x_Compare_int
  refine Run.callPure fn_x_isNaN_int nm_x_isNaN_int hI (isNaN_int_calls a S) fun w' hI => ?_
  refine Run.callPure fn_x_isNaN_int nm_x_isNaN_int hI (isNaN_int_calls b S) fun w' hI => ?_
  refine condV (fun hb => by cases hb) (fun _ => ?_)
  refine condV (fun hb => by cases hb) (fun _ => ?_)
  refine r_lss ?_
  refine condP (fun h => done hI (by rw [lessI, if_pos h])) (fun h => ?_)
  refine r_gtr ?_
  exact condP (fun h' => done hI (by rw [lessI, if_neg h, if_pos h'])) (fun h' => done hI (by rw [lessI, if_neg h, if_neg h']))
theorem Compare_string_calls (a b : ByteArray) (S : Store) : Pure Tryz.prog n_x_Compare_string [.string a, .string b] S (.int .i64 (beforeS a b)) := by
  intro w hI
  refine calls_x_Compare_string ?_
  unfold sh_x_Compare_string
  refine Run.callPure fn_x_isNaN_string nm_x_isNaN_string hI (isNaN_string_calls a S) fun w' hI => ?_
  refine Run.callPure fn_x_isNaN_string nm_x_isNaN_string hI (isNaN_string_calls b S) fun w' hI => ?_
  refine condV (fun hb => by cases hb) (fun _ => ?_)
  refine condV (fun hb => by cases hb) (fun _ => ?_)
  refine r_slss ?_
  refine condV (fun h => done hI (by rw [beforeS, if_pos h])) (fun h => ?_)
  refine r_sgtr ?_
  rw [h, Bool.false_or]
  refine condV (fun h' => done hI ?_) (fun h' => done hI ?_)
  · rw [Bool.not_eq_true', decide_eq_false_iff_not] at h'
    rcases beforeS_cases a b with h1 | h1 | h1
    · rw [h1.1] at h; cases h
    · rw [h1.2.2]
    · exact absurd h1.1 h'
  · rw [Bool.not_eq_false', decide_eq_true_eq] at h'
    rw [h', beforeS_self]
theorem rank_calls {t : T} {S : Store} {cs : List Value} (h : RdT S cs t) (_ : okO t) : Pure Tryz.prog n_i_rank [.agg cs.toArray] S (.int .i64 (rkI t)) := by
  intro w hI
  obtain ⟨kv, rfl, _, _, _, hks⟩ := RdT.iff.1 h
  refine calls_i_rank ?_
  unfold sh_i_rank
  refine r_box hI fun b1 w' hI => ?_
  refine r_fieldL hI 0 rfl fo_iTerm_0 sc_int rfl ?_
  refine r_eql ?_
  refine condP (fun h1 => done hI (by rw [rkI, if_pos (show t.kind = 1 from h1)])) (fun h1 => ?_)
  refine r_fieldL hI 0 rfl fo_iTerm_0 sc_int rfl ?_
  refine r_eql ?_
  refine condP (fun h2 => done hI (by rw [rkI, if_neg (show ¬ t.kind = 1 from h1), if_pos (show t.kind = 2 from h2)])) (fun h2 => ?_)
  refine r_fieldL hI 0 rfl fo_iTerm_3 sc_SiTerm rfl ?_
  refine r_lenSl hks sl_SiTerm ?_
  refine r_eql ?_
  exact condP (fun h3 => done hI (by rw [rkI, if_neg (show ¬ t.kind = 1 from h1), if_neg (show ¬ t.kind = 2 from h2), if_pos (by omega)])) (fun h3 => done hI (by rw [rkI, if_neg (show ¬ t.kind = 1 from h1), if_neg (show ¬ t.kind = 2 from h2), if_neg (by omega)]))
theorem Or_calls {l : List Int} {S : Store} {v : Value} (h : RdSl S 1 RdInt v l) : Pure Tryz.prog n_x_Or_int [v] S (.int .i64 (orL l)) := by
  intro w hI
  have hlen := h.le
  simp only [maxLen] at hlen
  refine calls_x_Or_int ?_
  unfold sh_x_Or_int
  refine r_lenSl h sl_Sint ?_
  refine ⟨fun i w' => ∃ j : Nat, j ≤ l.length ∧ i = .int .i64 j ∧ orL (l.drop j) = orL l ∧ Inv w [] [] S w', fun i _ => l.length - (intOf i).toNat, ⟨0, Nat.zero_le _, rfl, rfl, hI⟩, ?_⟩
  intro t8 _ _ _ _ _ _ _ _ _ _ w'
  rintro ⟨j, hj, rfl, hrel, hI⟩
  refine r_lss ?_
  refine condP (fun hji => ?_) (fun hji => ?_)
  · have hj' : j < l.length := by omega
    rw [List.drop_eq_getElem_cons hj', orL] at hrel
    refine r_elem1 hI h sl_Sint sc_int hj' (fun cs hcs => hcs) ?_
    refine r_neq ?_
    refine condV (fun hb => done hI ?_) (fun hb => ?_)
    · have hne : l[j] ≠ 0 := by simpa using hb
      rw [← hrel, lexC_ne hne]
    · have he : l[j] = 0 := by simpa using hb
      rw [he, lexC_zl] at hrel
      refine r_add (by omega) ?_
      exact ⟨⟨j + 1, hj', rfl, hrel, hI⟩, by simp [intOf]; omega⟩
  · refine done hI ?_
    rw [← hrel, List.drop_eq_nil_of_le (by omega)]; rfl
theorem CompareFunc_calls {ts us : List T} {S : Store} {v u : Value} (h : RdSl S 4 (RdT S) v ts) (h' : RdSl S 4 (RdT S) u us)
    (hc : ∀ t ∈ ts, ∀ u ∈ us, ∀ cs ds, RdT S cs t → RdT S ds u → Pure Tryz.prog n_i_compare [.agg cs.toArray, .agg ds.toArray] S (.int .i64 (cmpT t u))) :
    Pure Tryz.prog n_x_CompareFunc_Term [v, u, fv n_i_compare []] S (.int .i64 (cmpL ts us)) := by
  intro w hI
  have hlen := h.le
  simp only [maxLen] at hlen
  refine calls_x_CompareFunc_Term ?_
  unfold sh_x_CompareFunc_Term
  refine r_lenSl h sl_SiTerm ?_
  refine ⟨fun i w' => ∃ j : Nat, j ≤ ts.length ∧ j ≤ us.length ∧ i = .int .i64 j ∧ cmpL (ts.drop j) (us.drop j) = cmpL ts us ∧ Inv w [] [] S w', fun i _ => ts.length - (intOf i).toNat, ⟨0, Nat.zero_le _, Nat.zero_le _, rfl, rfl, hI⟩, ?_⟩
  intro t13 _ _ _ _ _ _ _ _ _ _ _ _ _ _ _ _ _ _ _ _ _ _ _ _ _ w'
  rintro ⟨j, hj, hju, rfl, hrel, hI⟩
  refine r_lss ?_
  refine condP (fun hji => ?_) (fun hji => ?_)
  · have hj1 : j < ts.length := by omega
    refine r_elem hI h sl_SiTerm ag_iTerm hj1 (fun _ _ => RdT.length) fun cs hcs => ?_
    have hlc := hcs.length
    refine r_alloc hI zo_iTerm fun b8 w' hI => ?_
    refine r_storeW hI 0 rfl ag_iTerm (by simpa using hlc) rfl (by simpa using hcs.one) fun w' hI => ?_
    refine r_lenSl h' sl_SiTerm ?_
    refine r_geq ?_
    refine condP (fun hb => done hI ?_) (fun hb => ?_)
    · rw [← hrel, List.drop_eq_nil_of_le (show us.length ≤ j by omega), List.drop_eq_getElem_cons hj1, cmpL]
    have hj2 : j < us.length := by omega
    refine r_elem hI h' sl_SiTerm ag_iTerm hj2 (fun _ _ => RdT.length) fun ds hds => ?_
    have hld := hds.length
    refine r_alloc hI zo_iTerm fun b9 w' hI => ?_
    refine r_storeW hI 1 rfl ag_iTerm (by simpa using hld) rfl (by simpa using hds.one) fun w' hI => ?_
    refine r_loadW hI 0 ag_iTerm rfl (by simpa using hlc) ?_
    refine r_loadW hI 1 ag_iTerm rfl (by simpa using hld) ?_
    refine Run.callVPure (cap := []) fn_i_compare nm_i_compare hI (hc _ (List.getElem_mem hj1) _ (List.getElem_mem hj2) cs ds hcs hds) fun w' hI => ?_
    rw [cmpL_drop ts us j hj1 hj2] at hrel
    refine r_neq ?_
    refine condV (fun hb => done hI ?_) (fun hb => ?_)
    · have hne : cmpT ts[j] us[j] ≠ 0 := by simpa using hb
      rw [← hrel, lexC_ne hne]
    · have he : cmpT ts[j] us[j] = 0 := by simpa using hb
      rw [he, lexC_zl] at hrel
      refine r_add (by omega) ?_
      exact ⟨⟨j + 1, hj1, hj2, rfl, hrel, hI.sub (List.nil_sublist _)⟩, by simp [intOf]; omega⟩
  · refine r_lenSl h sl_SiTerm ?_
    refine r_lenSl h' sl_SiTerm ?_
    refine r_lss ?_
    rw [List.drop_eq_nil_of_le (show ts.length ≤ j by omega)] at hrel
    refine condP (fun hb => done hI ?_) (fun hb => done hI ?_)
    · rw [← hrel, List.drop_eq_getElem_cons (show j < us.length by omega), cmpL]
    · rw [← hrel, List.drop_eq_nil_of_le (show us.length ≤ j by omega), cmpL]
theorem compare_calls : ∀ (t u : T) (S : Store) (cs ds : List Value), RdT S cs t → RdT S ds u → okO t → okO u → Pure Tryz.prog n_i_compare [.agg cs.toArray, .agg ds.toArray] S (.int .i64 (cmpT t u)) := by
  refine T.ind fun k n s ks ih u S cs ds h h' ht hu => ?_
  intro w hI
  have hcs := h
  have hds := h'
  have hor := cmp_or ht hu
  obtain ⟨kv, rfl, _, _, _, hks⟩ := RdT.iff.1 h
  obtain ⟨kv', rfl, _, _, _, hks'⟩ := RdT.iff.1 h'
  obtain ⟨k', n', s', ks'⟩ := u
  simp only [T.name, T.kids, T.kind, T.n] at hks hks' ⊢
  have htk : okOL ks := by have h := ht; rw [okO] at h; exact h.2
  have huk : okOL ks' := by have h := hu; rw [okO] at h; exact h.2
  have hkids := CompareFunc_calls hks hks' fun t ht u hu cs ds h1 h2 => ih t ht u S cs ds h1 h2 (okOL_mem htk t ht) (okOL_mem huk u hu)
  refine calls_i_compare ?_
  unfold sh_i_compare
  refine r_box hI fun b1 w' hI => ?_
  refine r_box hI fun b2 w' hI => ?_
  have hI : Inv w [] [.blk b1 (.cells #[.int .i64 k, .int .i64 n, .string s, kv] t_iTerm), .blk b2 (.cells #[.int .i64 k', .int .i64 n', .string s', kv'] t_iTerm)] S w' := hI
  refine ⟨fun D x4 x33 x32 x31 x30 x29 x28 x27 x26 x25 x24 x23 x22 x21 x20 x19 x18 x17 x16 x15 x14 x13 x12 x11 x10 x9 x8 x7 x6 x5 w_ => (D 0 = true → x5 = .agg #[.int .i64 k, .int .i64 n, .string s, kv]) ∧ (D 1 = true → x6 = .int .i64 (rkI (T.mk k n s ks))) ∧ (D 2 = true → x7 = .agg #[.int .i64 k', .int .i64 n', .string s', kv']) ∧ (D 3 = true → x8 = .int .i64 (rkI (T.mk k' n' s' ks'))) ∧ (D 4 = true → x9 = .int .i64 (lessI (rkI (T.mk k n s ks)) (rkI (T.mk k' n' s' ks')))) ∧ (D 5 = true → x10 = .pointer (some ⟨b1, 1, none⟩)) ∧ (D 6 = true → x11 = .int .i64 n) ∧ (D 7 = true → x12 = .pointer (some ⟨b2, 1, none⟩)) ∧ (D 8 = true → x13 = .int .i64 n') ∧ (D 9 = true → x14 = .int .i64 (lessI n n')) ∧ (D 10 = true → x15 = .pointer (some ⟨b1, 3, none⟩)) ∧ (D 11 = true → x16 = kv) ∧ (D 12 = true → x17 = .int .i64 ks.length) ∧ (D 13 = true → x18 = .pointer (some ⟨b2, 3, none⟩)) ∧ (D 14 = true → x19 = kv') ∧ (D 15 = true → x20 = .int .i64 ks'.length) ∧ (D 16 = true → x21 = .int .i64 (lessI ks.length ks'.length)) ∧ (D 17 = true → x22 = .pointer (some ⟨b1, 2, none⟩)) ∧ (D 18 = true → x23 = .string s) ∧ (D 19 = true → x24 = .pointer (some ⟨b2, 2, none⟩)) ∧ (D 20 = true → x25 = .string s') ∧ (D 21 = true → x26 = .int .i64 (beforeS s s')) ∧ (D 22 = true → x27 = .pointer (some ⟨b1, 3, none⟩)) ∧ (D 23 = true → x28 = kv) ∧ (D 24 = true → x29 = .pointer (some ⟨b2, 3, none⟩)) ∧ (D 25 = true → x30 = kv') ∧ (D 26 = true → x31 = .int .i64 (cmpL ks ks')) ∧ (D 27 = true → True) ∧ (D 28 = true → x33 = .int .i64 (orL [lessI (rkI (T.mk k n s ks)) (rkI (T.mk k' n' s' ks')), lessI n n', lessI ks.length ks'.length, beforeS s s', cmpL ks ks'])) ∧ (D 29 = true → x4 = .int .i64 (orL [lessI (rkI (T.mk k n s ks)) (rkI (T.mk k' n' s' ks')), lessI n n', lessI ks.length ks'.length, beforeS s s', cmpL ks ks'])) ∧ ∃ SN, Sle S SN ∧ (D 27 = true → RdSl SN 1 RdInt x32 [lessI (rkI (T.mk k n s ks)) (rkI (T.mk k' n' s' ks')), lessI n n', lessI ks.length ks'.length, beforeS s s', cmpL ks ks']) ∧ Inv w [] [.blk b1 (.cells #[.int .i64 k, .int .i64 n, .string s, kv] t_iTerm), .blk b2 (.cells #[.int .i64 k', .int .i64 n', .string s', kv'] t_iTerm)] SN w_, ⟨fun h => Bool.noConfusion h, fun h => Bool.noConfusion h, fun h => Bool.noConfusion h, fun h => Bool.noConfusion h, fun h => Bool.noConfusion h, fun h => Bool.noConfusion h, fun h => Bool.noConfusion h, fun h => Bool.noConfusion h, fun h => Bool.noConfusion h, fun h => Bool.noConfusion h, fun h => Bool.noConfusion h, fun h => Bool.noConfusion h, fun h => Bool.noConfusion h, fun h => Bool.noConfusion h, fun h => Bool.noConfusion h, fun h => Bool.noConfusion h, fun h => Bool.noConfusion h, fun h => Bool.noConfusion h, fun h => Bool.noConfusion h, fun h => Bool.noConfusion h, fun h => Bool.noConfusion h, fun h => Bool.noConfusion h, fun h => Bool.noConfusion h, fun h => Bool.noConfusion h, fun h => Bool.noConfusion h, fun h => Bool.noConfusion h, fun h => Bool.noConfusion h, fun h => Bool.noConfusion h, fun h => Bool.noConfusion h, fun h => Bool.noConfusion h, ⟨S, Sle.refl _, fun h => Bool.noConfusion h, hI.draw⟩⟩, ⟨?_, ?_, ?_, ?_, ?_, ?_, ?_, ?_, ?_, ?_, ?_, ?_, ?_, ?_, ?_, ?_, ?_, ?_, ?_, ?_, ?_, ?_, ?_, ?_, ?_, ?_, ?_, ?_, ?_, ?_, trivial⟩, ?_⟩
  · intro D hD_  x4 x33 x32 x31 x30 x29 x28 x27 x26 x25 x24 x23 x22 x21 x20 x19 x18 x17 x16 x15 x14 x13 x12 x11 x10 x9 x8 x7 x6 x5 w_
    rintro ⟨h0_, h1_, h2_, h3_, h4_, h5_, h6_, h7_, h8_, h9_, h10_, h11_, h12_, h13_, h14_, h15_, h16_, h17_, h18_, h19_, h20_, h21_, h22_, h23_, h24_, h25_, h26_, h27_, h28_, h29_, ⟨SN, hN, e27, hI⟩⟩
    refine r_loadW hI 0 ag_iTerm rfl rfl ?_
    exact ⟨fun _ => rfl, h1_, h2_, h3_, h4_, h5_, h6_, h7_, h8_, h9_, h10_, h11_, h12_, h13_, h14_, h15_, h16_, h17_, h18_, h19_, h20_, h21_, h22_, h23_, h24_, h25_, h26_, h27_, h28_, h29_, ⟨SN, hN, e27, hI⟩⟩
  · intro D hD_ d0_0 x4 x33 x32 x31 x30 x29 x28 x27 x26 x25 x24 x23 x22 x21 x20 x19 x18 x17 x16 x15 x14 x13 x12 x11 x10 x9 x8 x7 x6 x5 w_
    rintro ⟨h0_, h1_, h2_, h3_, h4_, h5_, h6_, h7_, h8_, h9_, h10_, h11_, h12_, h13_, h14_, h15_, h16_, h17_, h18_, h19_, h20_, h21_, h22_, h23_, h24_, h25_, h26_, h27_, h28_, h29_, ⟨SN, hN, e27, hI⟩⟩
    obtain rfl := h0_ d0_0
    refine Run.callPure fn_i_rank nm_i_rank hI (rank_calls (hcs.mono hN) ht) fun w_ hI => ?_
    exact ⟨h0_, fun _ => rfl, h2_, h3_, h4_, h5_, h6_, h7_, h8_, h9_, h10_, h11_, h12_, h13_, h14_, h15_, h16_, h17_, h18_, h19_, h20_, h21_, h22_, h23_, h24_, h25_, h26_, h27_, h28_, h29_, ⟨SN, hN, e27, hI⟩⟩
  · intro D hD_  x4 x33 x32 x31 x30 x29 x28 x27 x26 x25 x24 x23 x22 x21 x20 x19 x18 x17 x16 x15 x14 x13 x12 x11 x10 x9 x8 x7 x6 x5 w_
    rintro ⟨h0_, h1_, h2_, h3_, h4_, h5_, h6_, h7_, h8_, h9_, h10_, h11_, h12_, h13_, h14_, h15_, h16_, h17_, h18_, h19_, h20_, h21_, h22_, h23_, h24_, h25_, h26_, h27_, h28_, h29_, ⟨SN, hN, e27, hI⟩⟩
    refine r_loadW hI 1 ag_iTerm rfl rfl ?_
    exact ⟨h0_, h1_, fun _ => rfl, h3_, h4_, h5_, h6_, h7_, h8_, h9_, h10_, h11_, h12_, h13_, h14_, h15_, h16_, h17_, h18_, h19_, h20_, h21_, h22_, h23_, h24_, h25_, h26_, h27_, h28_, h29_, ⟨SN, hN, e27, hI⟩⟩
  · intro D hD_ d2_0 d1_1 x4 x33 x32 x31 x30 x29 x28 x27 x26 x25 x24 x23 x22 x21 x20 x19 x18 x17 x16 x15 x14 x13 x12 x11 x10 x9 x8 x7 x6 x5 w_
    rintro ⟨h0_, h1_, h2_, h3_, h4_, h5_, h6_, h7_, h8_, h9_, h10_, h11_, h12_, h13_, h14_, h15_, h16_, h17_, h18_, h19_, h20_, h21_, h22_, h23_, h24_, h25_, h26_, h27_, h28_, h29_, ⟨SN, hN, e27, hI⟩⟩
    obtain rfl := h2_ d2_0
    refine Run.callPure fn_i_rank nm_i_rank hI (rank_calls (hds.mono hN) hu) fun w_ hI => ?_
    exact ⟨h0_, h1_, h2_, fun _ => rfl, h4_, h5_, h6_, h7_, h8_, h9_, h10_, h11_, h12_, h13_, h14_, h15_, h16_, h17_, h18_, h19_, h20_, h21_, h22_, h23_, h24_, h25_, h26_, h27_, h28_, h29_, ⟨SN, hN, e27, hI⟩⟩
  · intro D hD_ d1_0 d3_1 d3_2 x4 x33 x32 x31 x30 x29 x28 x27 x26 x25 x24 x23 x22 x21 x20 x19 x18 x17 x16 x15 x14 x13 x12 x11 x10 x9 x8 x7 x6 x5 w_
    rintro ⟨h0_, h1_, h2_, h3_, h4_, h5_, h6_, h7_, h8_, h9_, h10_, h11_, h12_, h13_, h14_, h15_, h16_, h17_, h18_, h19_, h20_, h21_, h22_, h23_, h24_, h25_, h26_, h27_, h28_, h29_, ⟨SN, hN, e27, hI⟩⟩
    obtain rfl := h1_ d1_0
    obtain rfl := h3_ d3_1
    refine Run.callPure fn_x_Compare_int nm_x_Compare_int hI (Compare_int_calls _ _ SN) fun w_ hI => ?_
    exact ⟨h0_, h1_, h2_, h3_, fun _ => rfl, h5_, h6_, h7_, h8_, h9_, h10_, h11_, h12_, h13_, h14_, h15_, h16_, h17_, h18_, h19_, h20_, h21_, h22_, h23_, h24_, h25_, h26_, h27_, h28_, h29_, ⟨SN, hN, e27, hI⟩⟩
  · intro D hD_  x4 x33 x32 x31 x30 x29 x28 x27 x26 x25 x24 x23 x22 x21 x20 x19 x18 x17 x16 x15 x14 x13 x12 x11 x10 x9 x8 x7 x6 x5 w_
    rintro ⟨h0_, h1_, h2_, h3_, h4_, h5_, h6_, h7_, h8_, h9_, h10_, h11_, h12_, h13_, h14_, h15_, h16_, h17_, h18_, h19_, h20_, h21_, h22_, h23_, h24_, h25_, h26_, h27_, h28_, h29_, ⟨SN, hN, e27, hI⟩⟩
    refine r_field fo_iTerm_1 ?_
    exact ⟨h0_, h1_, h2_, h3_, h4_, fun _ => rfl, h6_, h7_, h8_, h9_, h10_, h11_, h12_, h13_, h14_, h15_, h16_, h17_, h18_, h19_, h20_, h21_, h22_, h23_, h24_, h25_, h26_, h27_, h28_, h29_, ⟨SN, hN, e27, hI⟩⟩
  · intro D hD_ d5_0 x4 x33 x32 x31 x30 x29 x28 x27 x26 x25 x24 x23 x22 x21 x20 x19 x18 x17 x16 x15 x14 x13 x12 x11 x10 x9 x8 x7 x6 x5 w_
    rintro ⟨h0_, h1_, h2_, h3_, h4_, h5_, h6_, h7_, h8_, h9_, h10_, h11_, h12_, h13_, h14_, h15_, h16_, h17_, h18_, h19_, h20_, h21_, h22_, h23_, h24_, h25_, h26_, h27_, h28_, h29_, ⟨SN, hN, e27, hI⟩⟩
    obtain rfl := h5_ d5_0
    refine r_loadL hI 0 sc_int rfl rfl ?_
    exact ⟨h0_, h1_, h2_, h3_, h4_, h5_, fun _ => rfl, h7_, h8_, h9_, h10_, h11_, h12_, h13_, h14_, h15_, h16_, h17_, h18_, h19_, h20_, h21_, h22_, h23_, h24_, h25_, h26_, h27_, h28_, h29_, ⟨SN, hN, e27, hI⟩⟩
  · intro D hD_  x4 x33 x32 x31 x30 x29 x28 x27 x26 x25 x24 x23 x22 x21 x20 x19 x18 x17 x16 x15 x14 x13 x12 x11 x10 x9 x8 x7 x6 x5 w_
    rintro ⟨h0_, h1_, h2_, h3_, h4_, h5_, h6_, h7_, h8_, h9_, h10_, h11_, h12_, h13_, h14_, h15_, h16_, h17_, h18_, h19_, h20_, h21_, h22_, h23_, h24_, h25_, h26_, h27_, h28_, h29_, ⟨SN, hN, e27, hI⟩⟩
    refine r_field fo_iTerm_1 ?_
    exact ⟨h0_, h1_, h2_, h3_, h4_, h5_, h6_, fun _ => rfl, h8_, h9_, h10_, h11_, h12_, h13_, h14_, h15_, h16_, h17_, h18_, h19_, h20_, h21_, h22_, h23_, h24_, h25_, h26_, h27_, h28_, h29_, ⟨SN, hN, e27, hI⟩⟩
  · intro D hD_ d7_0 x4 x33 x32 x31 x30 x29 x28 x27 x26 x25 x24 x23 x22 x21 x20 x19 x18 x17 x16 x15 x14 x13 x12 x11 x10 x9 x8 x7 x6 x5 w_
    rintro ⟨h0_, h1_, h2_, h3_, h4_, h5_, h6_, h7_, h8_, h9_, h10_, h11_, h12_, h13_, h14_, h15_, h16_, h17_, h18_, h19_, h20_, h21_, h22_, h23_, h24_, h25_, h26_, h27_, h28_, h29_, ⟨SN, hN, e27, hI⟩⟩
    obtain rfl := h7_ d7_0
    refine r_loadL hI 1 sc_int rfl rfl ?_
    exact ⟨h0_, h1_, h2_, h3_, h4_, h5_, h6_, h7_, fun _ => rfl, h9_, h10_, h11_, h12_, h13_, h14_, h15_, h16_, h17_, h18_, h19_, h20_, h21_, h22_, h23_, h24_, h25_, h26_, h27_, h28_, h29_, ⟨SN, hN, e27, hI⟩⟩
  · intro D hD_ d6_0 d8_1 d4_2 x4 x33 x32 x31 x30 x29 x28 x27 x26 x25 x24 x23 x22 x21 x20 x19 x18 x17 x16 x15 x14 x13 x12 x11 x10 x9 x8 x7 x6 x5 w_
    rintro ⟨h0_, h1_, h2_, h3_, h4_, h5_, h6_, h7_, h8_, h9_, h10_, h11_, h12_, h13_, h14_, h15_, h16_, h17_, h18_, h19_, h20_, h21_, h22_, h23_, h24_, h25_, h26_, h27_, h28_, h29_, ⟨SN, hN, e27, hI⟩⟩
    obtain rfl := h6_ d6_0
    obtain rfl := h8_ d8_1
    refine Run.callPure fn_x_Compare_int nm_x_Compare_int hI (Compare_int_calls _ _ SN) fun w_ hI => ?_
    exact ⟨h0_, h1_, h2_, h3_, h4_, h5_, h6_, h7_, h8_, fun _ => rfl, h10_, h11_, h12_, h13_, h14_, h15_, h16_, h17_, h18_, h19_, h20_, h21_, h22_, h23_, h24_, h25_, h26_, h27_, h28_, h29_, ⟨SN, hN, e27, hI⟩⟩
  · intro D hD_  x4 x33 x32 x31 x30 x29 x28 x27 x26 x25 x24 x23 x22 x21 x20 x19 x18 x17 x16 x15 x14 x13 x12 x11 x10 x9 x8 x7 x6 x5 w_
    rintro ⟨h0_, h1_, h2_, h3_, h4_, h5_, h6_, h7_, h8_, h9_, h10_, h11_, h12_, h13_, h14_, h15_, h16_, h17_, h18_, h19_, h20_, h21_, h22_, h23_, h24_, h25_, h26_, h27_, h28_, h29_, ⟨SN, hN, e27, hI⟩⟩
    refine r_field fo_iTerm_3 ?_
    exact ⟨h0_, h1_, h2_, h3_, h4_, h5_, h6_, h7_, h8_, h9_, fun _ => rfl, h11_, h12_, h13_, h14_, h15_, h16_, h17_, h18_, h19_, h20_, h21_, h22_, h23_, h24_, h25_, h26_, h27_, h28_, h29_, ⟨SN, hN, e27, hI⟩⟩
  · intro D hD_ d10_0 x4 x33 x32 x31 x30 x29 x28 x27 x26 x25 x24 x23 x22 x21 x20 x19 x18 x17 x16 x15 x14 x13 x12 x11 x10 x9 x8 x7 x6 x5 w_
    rintro ⟨h0_, h1_, h2_, h3_, h4_, h5_, h6_, h7_, h8_, h9_, h10_, h11_, h12_, h13_, h14_, h15_, h16_, h17_, h18_, h19_, h20_, h21_, h22_, h23_, h24_, h25_, h26_, h27_, h28_, h29_, ⟨SN, hN, e27, hI⟩⟩
    obtain rfl := h10_ d10_0
    refine r_loadL hI 0 sc_SiTerm rfl rfl ?_
    exact ⟨h0_, h1_, h2_, h3_, h4_, h5_, h6_, h7_, h8_, h9_, h10_, fun _ => rfl, h12_, h13_, h14_, h15_, h16_, h17_, h18_, h19_, h20_, h21_, h22_, h23_, h24_, h25_, h26_, h27_, h28_, h29_, ⟨SN, hN, e27, hI⟩⟩
  · intro D hD_ d11_0 x4 x33 x32 x31 x30 x29 x28 x27 x26 x25 x24 x23 x22 x21 x20 x19 x18 x17 x16 x15 x14 x13 x12 x11 x10 x9 x8 x7 x6 x5 w_
    rintro ⟨h0_, h1_, h2_, h3_, h4_, h5_, h6_, h7_, h8_, h9_, h10_, h11_, h12_, h13_, h14_, h15_, h16_, h17_, h18_, h19_, h20_, h21_, h22_, h23_, h24_, h25_, h26_, h27_, h28_, h29_, ⟨SN, hN, e27, hI⟩⟩
    obtain rfl := h11_ d11_0
    refine r_lenSl hks sl_SiTerm ?_
    exact ⟨h0_, h1_, h2_, h3_, h4_, h5_, h6_, h7_, h8_, h9_, h10_, h11_, fun _ => rfl, h13_, h14_, h15_, h16_, h17_, h18_, h19_, h20_, h21_, h22_, h23_, h24_, h25_, h26_, h27_, h28_, h29_, ⟨SN, hN, e27, hI⟩⟩
  · intro D hD_  x4 x33 x32 x31 x30 x29 x28 x27 x26 x25 x24 x23 x22 x21 x20 x19 x18 x17 x16 x15 x14 x13 x12 x11 x10 x9 x8 x7 x6 x5 w_
    rintro ⟨h0_, h1_, h2_, h3_, h4_, h5_, h6_, h7_, h8_, h9_, h10_, h11_, h12_, h13_, h14_, h15_, h16_, h17_, h18_, h19_, h20_, h21_, h22_, h23_, h24_, h25_, h26_, h27_, h28_, h29_, ⟨SN, hN, e27, hI⟩⟩
    refine r_field fo_iTerm_3 ?_
    exact ⟨h0_, h1_, h2_, h3_, h4_, h5_, h6_, h7_, h8_, h9_, h10_, h11_, h12_, fun _ => rfl, h14_, h15_, h16_, h17_, h18_, h19_, h20_, h21_, h22_, h23_, h24_, h25_, h26_, h27_, h28_, h29_, ⟨SN, hN, e27, hI⟩⟩
  · intro D hD_ d13_0 x4 x33 x32 x31 x30 x29 x28 x27 x26 x25 x24 x23 x22 x21 x20 x19 x18 x17 x16 x15 x14 x13 x12 x11 x10 x9 x8 x7 x6 x5 w_
    rintro ⟨h0_, h1_, h2_, h3_, h4_, h5_, h6_, h7_, h8_, h9_, h10_, h11_, h12_, h13_, h14_, h15_, h16_, h17_, h18_, h19_, h20_, h21_, h22_, h23_, h24_, h25_, h26_, h27_, h28_, h29_, ⟨SN, hN, e27, hI⟩⟩
    obtain rfl := h13_ d13_0
    refine r_loadL hI 1 sc_SiTerm rfl rfl ?_
    exact ⟨h0_, h1_, h2_, h3_, h4_, h5_, h6_, h7_, h8_, h9_, h10_, h11_, h12_, h13_, fun _ => rfl, h15_, h16_, h17_, h18_, h19_, h20_, h21_, h22_, h23_, h24_, h25_, h26_, h27_, h28_, h29_, ⟨SN, hN, e27, hI⟩⟩
  · intro D hD_ d14_0 x4 x33 x32 x31 x30 x29 x28 x27 x26 x25 x24 x23 x22 x21 x20 x19 x18 x17 x16 x15 x14 x13 x12 x11 x10 x9 x8 x7 x6 x5 w_
    rintro ⟨h0_, h1_, h2_, h3_, h4_, h5_, h6_, h7_, h8_, h9_, h10_, h11_, h12_, h13_, h14_, h15_, h16_, h17_, h18_, h19_, h20_, h21_, h22_, h23_, h24_, h25_, h26_, h27_, h28_, h29_, ⟨SN, hN, e27, hI⟩⟩
    obtain rfl := h14_ d14_0
    refine r_lenSl hks' sl_SiTerm ?_
    exact ⟨h0_, h1_, h2_, h3_, h4_, h5_, h6_, h7_, h8_, h9_, h10_, h11_, h12_, h13_, h14_, fun _ => rfl, h16_, h17_, h18_, h19_, h20_, h21_, h22_, h23_, h24_, h25_, h26_, h27_, h28_, h29_, ⟨SN, hN, e27, hI⟩⟩
  · intro D hD_ d12_0 d15_1 d9_2 x4 x33 x32 x31 x30 x29 x28 x27 x26 x25 x24 x23 x22 x21 x20 x19 x18 x17 x16 x15 x14 x13 x12 x11 x10 x9 x8 x7 x6 x5 w_
    rintro ⟨h0_, h1_, h2_, h3_, h4_, h5_, h6_, h7_, h8_, h9_, h10_, h11_, h12_, h13_, h14_, h15_, h16_, h17_, h18_, h19_, h20_, h21_, h22_, h23_, h24_, h25_, h26_, h27_, h28_, h29_, ⟨SN, hN, e27, hI⟩⟩
    obtain rfl := h12_ d12_0
    obtain rfl := h15_ d15_1
    refine Run.callPure fn_x_Compare_int nm_x_Compare_int hI (Compare_int_calls _ _ SN) fun w_ hI => ?_
    exact ⟨h0_, h1_, h2_, h3_, h4_, h5_, h6_, h7_, h8_, h9_, h10_, h11_, h12_, h13_, h14_, h15_, fun _ => rfl, h17_, h18_, h19_, h20_, h21_, h22_, h23_, h24_, h25_, h26_, h27_, h28_, h29_, ⟨SN, hN, e27, hI⟩⟩
  · intro D hD_  x4 x33 x32 x31 x30 x29 x28 x27 x26 x25 x24 x23 x22 x21 x20 x19 x18 x17 x16 x15 x14 x13 x12 x11 x10 x9 x8 x7 x6 x5 w_
    rintro ⟨h0_, h1_, h2_, h3_, h4_, h5_, h6_, h7_, h8_, h9_, h10_, h11_, h12_, h13_, h14_, h15_, h16_, h17_, h18_, h19_, h20_, h21_, h22_, h23_, h24_, h25_, h26_, h27_, h28_, h29_, ⟨SN, hN, e27, hI⟩⟩
    refine r_field fo_iTerm_2 ?_
    exact ⟨h0_, h1_, h2_, h3_, h4_, h5_, h6_, h7_, h8_, h9_, h10_, h11_, h12_, h13_, h14_, h15_, h16_, fun _ => rfl, h18_, h19_, h20_, h21_, h22_, h23_, h24_, h25_, h26_, h27_, h28_, h29_, ⟨SN, hN, e27, hI⟩⟩
  · intro D hD_ d17_0 x4 x33 x32 x31 x30 x29 x28 x27 x26 x25 x24 x23 x22 x21 x20 x19 x18 x17 x16 x15 x14 x13 x12 x11 x10 x9 x8 x7 x6 x5 w_
    rintro ⟨h0_, h1_, h2_, h3_, h4_, h5_, h6_, h7_, h8_, h9_, h10_, h11_, h12_, h13_, h14_, h15_, h16_, h17_, h18_, h19_, h20_, h21_, h22_, h23_, h24_, h25_, h26_, h27_, h28_, h29_, ⟨SN, hN, e27, hI⟩⟩
    obtain rfl := h17_ d17_0
    refine r_loadL hI 0 sc_string rfl rfl ?_
    exact ⟨h0_, h1_, h2_, h3_, h4_, h5_, h6_, h7_, h8_, h9_, h10_, h11_, h12_, h13_, h14_, h15_, h16_, h17_, fun _ => rfl, h19_, h20_, h21_, h22_, h23_, h24_, h25_, h26_, h27_, h28_, h29_, ⟨SN, hN, e27, hI⟩⟩
  · intro D hD_  x4 x33 x32 x31 x30 x29 x28 x27 x26 x25 x24 x23 x22 x21 x20 x19 x18 x17 x16 x15 x14 x13 x12 x11 x10 x9 x8 x7 x6 x5 w_
    rintro ⟨h0_, h1_, h2_, h3_, h4_, h5_, h6_, h7_, h8_, h9_, h10_, h11_, h12_, h13_, h14_, h15_, h16_, h17_, h18_, h19_, h20_, h21_, h22_, h23_, h24_, h25_, h26_, h27_, h28_, h29_, ⟨SN, hN, e27, hI⟩⟩
    refine r_field fo_iTerm_2 ?_
    exact ⟨h0_, h1_, h2_, h3_, h4_, h5_, h6_, h7_, h8_, h9_, h10_, h11_, h12_, h13_, h14_, h15_, h16_, h17_, h18_, fun _ => rfl, h20_, h21_, h22_, h23_, h24_, h25_, h26_, h27_, h28_, h29_, ⟨SN, hN, e27, hI⟩⟩
  · intro D hD_ d19_0 x4 x33 x32 x31 x30 x29 x28 x27 x26 x25 x24 x23 x22 x21 x20 x19 x18 x17 x16 x15 x14 x13 x12 x11 x10 x9 x8 x7 x6 x5 w_
    rintro ⟨h0_, h1_, h2_, h3_, h4_, h5_, h6_, h7_, h8_, h9_, h10_, h11_, h12_, h13_, h14_, h15_, h16_, h17_, h18_, h19_, h20_, h21_, h22_, h23_, h24_, h25_, h26_, h27_, h28_, h29_, ⟨SN, hN, e27, hI⟩⟩
    obtain rfl := h19_ d19_0
    refine r_loadL hI 1 sc_string rfl rfl ?_
    exact ⟨h0_, h1_, h2_, h3_, h4_, h5_, h6_, h7_, h8_, h9_, h10_, h11_, h12_, h13_, h14_, h15_, h16_, h17_, h18_, h19_, fun _ => rfl, h21_, h22_, h23_, h24_, h25_, h26_, h27_, h28_, h29_, ⟨SN, hN, e27, hI⟩⟩
  · intro D hD_ d18_0 d20_1 d16_2 x4 x33 x32 x31 x30 x29 x28 x27 x26 x25 x24 x23 x22 x21 x20 x19 x18 x17 x16 x15 x14 x13 x12 x11 x10 x9 x8 x7 x6 x5 w_
    rintro ⟨h0_, h1_, h2_, h3_, h4_, h5_, h6_, h7_, h8_, h9_, h10_, h11_, h12_, h13_, h14_, h15_, h16_, h17_, h18_, h19_, h20_, h21_, h22_, h23_, h24_, h25_, h26_, h27_, h28_, h29_, ⟨SN, hN, e27, hI⟩⟩
    obtain rfl := h18_ d18_0
    obtain rfl := h20_ d20_1
    refine Run.callPure fn_x_Compare_string nm_x_Compare_string hI (Compare_string_calls _ _ SN) fun w_ hI => ?_
    exact ⟨h0_, h1_, h2_, h3_, h4_, h5_, h6_, h7_, h8_, h9_, h10_, h11_, h12_, h13_, h14_, h15_, h16_, h17_, h18_, h19_, h20_, fun _ => rfl, h22_, h23_, h24_, h25_, h26_, h27_, h28_, h29_, ⟨SN, hN, e27, hI⟩⟩
  · intro D hD_  x4 x33 x32 x31 x30 x29 x28 x27 x26 x25 x24 x23 x22 x21 x20 x19 x18 x17 x16 x15 x14 x13 x12 x11 x10 x9 x8 x7 x6 x5 w_
    rintro ⟨h0_, h1_, h2_, h3_, h4_, h5_, h6_, h7_, h8_, h9_, h10_, h11_, h12_, h13_, h14_, h15_, h16_, h17_, h18_, h19_, h20_, h21_, h22_, h23_, h24_, h25_, h26_, h27_, h28_, h29_, ⟨SN, hN, e27, hI⟩⟩
    refine r_field fo_iTerm_3 ?_
    exact ⟨h0_, h1_, h2_, h3_, h4_, h5_, h6_, h7_, h8_, h9_, h10_, h11_, h12_, h13_, h14_, h15_, h16_, h17_, h18_, h19_, h20_, h21_, fun _ => rfl, h23_, h24_, h25_, h26_, h27_, h28_, h29_, ⟨SN, hN, e27, hI⟩⟩
  · intro D hD_ d22_0 x4 x33 x32 x31 x30 x29 x28 x27 x26 x25 x24 x23 x22 x21 x20 x19 x18 x17 x16 x15 x14 x13 x12 x11 x10 x9 x8 x7 x6 x5 w_
    rintro ⟨h0_, h1_, h2_, h3_, h4_, h5_, h6_, h7_, h8_, h9_, h10_, h11_, h12_, h13_, h14_, h15_, h16_, h17_, h18_, h19_, h20_, h21_, h22_, h23_, h24_, h25_, h26_, h27_, h28_, h29_, ⟨SN, hN, e27, hI⟩⟩
    obtain rfl := h22_ d22_0
    refine r_loadL hI 0 sc_SiTerm rfl rfl ?_
    exact ⟨h0_, h1_, h2_, h3_, h4_, h5_, h6_, h7_, h8_, h9_, h10_, h11_, h12_, h13_, h14_, h15_, h16_, h17_, h18_, h19_, h20_, h21_, h22_, fun _ => rfl, h24_, h25_, h26_, h27_, h28_, h29_, ⟨SN, hN, e27, hI⟩⟩
  · intro D hD_  x4 x33 x32 x31 x30 x29 x28 x27 x26 x25 x24 x23 x22 x21 x20 x19 x18 x17 x16 x15 x14 x13 x12 x11 x10 x9 x8 x7 x6 x5 w_
    rintro ⟨h0_, h1_, h2_, h3_, h4_, h5_, h6_, h7_, h8_, h9_, h10_, h11_, h12_, h13_, h14_, h15_, h16_, h17_, h18_, h19_, h20_, h21_, h22_, h23_, h24_, h25_, h26_, h27_, h28_, h29_, ⟨SN, hN, e27, hI⟩⟩
    refine r_field fo_iTerm_3 ?_
    exact ⟨h0_, h1_, h2_, h3_, h4_, h5_, h6_, h7_, h8_, h9_, h10_, h11_, h12_, h13_, h14_, h15_, h16_, h17_, h18_, h19_, h20_, h21_, h22_, h23_, fun _ => rfl, h25_, h26_, h27_, h28_, h29_, ⟨SN, hN, e27, hI⟩⟩
  · intro D hD_ d24_0 x4 x33 x32 x31 x30 x29 x28 x27 x26 x25 x24 x23 x22 x21 x20 x19 x18 x17 x16 x15 x14 x13 x12 x11 x10 x9 x8 x7 x6 x5 w_
    rintro ⟨h0_, h1_, h2_, h3_, h4_, h5_, h6_, h7_, h8_, h9_, h10_, h11_, h12_, h13_, h14_, h15_, h16_, h17_, h18_, h19_, h20_, h21_, h22_, h23_, h24_, h25_, h26_, h27_, h28_, h29_, ⟨SN, hN, e27, hI⟩⟩
    obtain rfl := h24_ d24_0
    refine r_loadL hI 1 sc_SiTerm rfl rfl ?_
    exact ⟨h0_, h1_, h2_, h3_, h4_, h5_, h6_, h7_, h8_, h9_, h10_, h11_, h12_, h13_, h14_, h15_, h16_, h17_, h18_, h19_, h20_, h21_, h22_, h23_, h24_, fun _ => rfl, h26_, h27_, h28_, h29_, ⟨SN, hN, e27, hI⟩⟩
  · intro D hD_ d23_0 d25_1 d21_2 x4 x33 x32 x31 x30 x29 x28 x27 x26 x25 x24 x23 x22 x21 x20 x19 x18 x17 x16 x15 x14 x13 x12 x11 x10 x9 x8 x7 x6 x5 w_
    rintro ⟨h0_, h1_, h2_, h3_, h4_, h5_, h6_, h7_, h8_, h9_, h10_, h11_, h12_, h13_, h14_, h15_, h16_, h17_, h18_, h19_, h20_, h21_, h22_, h23_, h24_, h25_, h26_, h27_, h28_, h29_, ⟨SN, hN, e27, hI⟩⟩
    obtain rfl := h23_ d23_0
    obtain rfl := h25_ d25_1
    refine Run.callPure fn_x_CompareFunc_Term nm_x_CompareFunc_Term hI (hkids.less hN) fun w_ hI => ?_
    exact ⟨h0_, h1_, h2_, h3_, h4_, h5_, h6_, h7_, h8_, h9_, h10_, h11_, h12_, h13_, h14_, h15_, h16_, h17_, h18_, h19_, h20_, h21_, h22_, h23_, h24_, h25_, fun _ => rfl, h27_, h28_, h29_, ⟨SN, hN, e27, hI⟩⟩
  · intro D hD_ d4_0 d9_1 d16_2 d21_3 d26_4 x4 x33 x32 x31 x30 x29 x28 x27 x26 x25 x24 x23 x22 x21 x20 x19 x18 x17 x16 x15 x14 x13 x12 x11 x10 x9 x8 x7 x6 x5 w_
    rintro ⟨h0_, h1_, h2_, h3_, h4_, h5_, h6_, h7_, h8_, h9_, h10_, h11_, h12_, h13_, h14_, h15_, h16_, h17_, h18_, h19_, h20_, h21_, h22_, h23_, h24_, h25_, h26_, h27_, h28_, h29_, ⟨SN, hN, e27, hI⟩⟩
    obtain rfl := h4_ d4_0
    obtain rfl := h9_ d9_1
    obtain rfl := h16_ d16_2
    obtain rfl := h21_ d21_3
    obtain rfl := h26_ d26_4
    refine r_slice5 hI fun b5 w_ hI => ?_
    obtain ⟨SN, hI, hE, hb⟩ := Inv.pub1 (A := [.blk b1 (.cells #[.int .i64 k, .int .i64 n, .string s, kv] t_iTerm), .blk b2 (.cells #[.int .i64 k', .int .i64 n', .string s', kv'] t_iTerm)]) hI
    have hN := hN.trans hE.1
    have e27 := fun (_ : setD D 27 27 = true) => (⟨some ⟨b5, 0, none⟩, 5, rfl, by simp, by simp [maxLen], .inr ⟨b5, 0, _, t_int, (0, 0), rfl, hb, fun i hi => by match i, hi with | 0, _ | 1, _ | 2, _ | 3, _ | 4, _ => rfl⟩⟩ : RdSl SN 1 RdInt (.slice (some ⟨b5, 0, none⟩) 5 5) [lessI (rkI (T.mk k n s ks)) (rkI (T.mk k' n' s' ks')), lessI n n', lessI ks.length ks'.length, beforeS s s', cmpL ks ks'])
    exact ⟨h0_, h1_, h2_, h3_, h4_, h5_, h6_, h7_, h8_, h9_, h10_, h11_, h12_, h13_, h14_, h15_, h16_, h17_, h18_, h19_, h20_, h21_, h22_, h23_, h24_, h25_, h26_, fun _ => by first | assumption | trivial, h28_, h29_, ⟨SN, hN, e27, hI⟩⟩
  · intro D hD_ d27_0 d26_1 x4 x33 x32 x31 x30 x29 x28 x27 x26 x25 x24 x23 x22 x21 x20 x19 x18 x17 x16 x15 x14 x13 x12 x11 x10 x9 x8 x7 x6 x5 w_
    rintro ⟨h0_, h1_, h2_, h3_, h4_, h5_, h6_, h7_, h8_, h9_, h10_, h11_, h12_, h13_, h14_, h15_, h16_, h17_, h18_, h19_, h20_, h21_, h22_, h23_, h24_, h25_, h26_, h27_, h28_, h29_, ⟨SN, hN, e27, hI⟩⟩
    have g27_ := h27_ d27_0
    refine Run.callPure fn_x_Or_int nm_x_Or_int hI (Or_calls (e27 d27_0)) fun w_ hI => ?_
    exact ⟨h0_, h1_, h2_, h3_, h4_, h5_, h6_, h7_, h8_, h9_, h10_, h11_, h12_, h13_, h14_, h15_, h16_, h17_, h18_, h19_, h20_, h21_, h22_, h23_, h24_, h25_, h26_, h27_, fun _ => rfl, h29_, ⟨SN, hN, e27, hI⟩⟩
  · intro D hD_ d28_0 d28_1 d0_2 d1_3 d2_4 d3_5 d4_6 d5_7 d6_8 d7_9 d8_10 d9_11 d10_12 d11_13 d12_14 d13_15 d14_16 d15_17 d16_18 d17_19 d18_20 d19_21 d20_22 d21_23 d22_24 d23_25 d24_26 d25_27 d26_28 d27_29 d28_30 x4 x33 x32 x31 x30 x29 x28 x27 x26 x25 x24 x23 x22 x21 x20 x19 x18 x17 x16 x15 x14 x13 x12 x11 x10 x9 x8 x7 x6 x5 w_
    rintro ⟨h0_, h1_, h2_, h3_, h4_, h5_, h6_, h7_, h8_, h9_, h10_, h11_, h12_, h13_, h14_, h15_, h16_, h17_, h18_, h19_, h20_, h21_, h22_, h23_, h24_, h25_, h26_, h27_, h28_, h29_, ⟨SN, hN, e27, hI⟩⟩
    obtain rfl := h28_ d28_0
    exact ⟨h0_, h1_, h2_, h3_, h4_, h5_, h6_, h7_, h8_, h9_, h10_, h11_, h12_, h13_, h14_, h15_, h16_, h17_, h18_, h19_, h20_, h21_, h22_, h23_, h24_, h25_, h26_, h27_, h28_, fun _ => rfl, ⟨SN, hN, e27, hI⟩⟩
  intro D d29_ d28_ d27_ d26_ d25_ d24_ d23_ d22_ d21_ d20_ d19_ d18_ d17_ d16_ d15_ d14_ d13_ d12_ d11_ d10_ d9_ d8_ d7_ d6_ d5_ d4_ d3_ d2_ d1_ d0_ x4 x33 x32 x31 x30 x29 x28 x27 x26 x25 x24 x23 x22 x21 x20 x19 x18 x17 x16 x15 x14 x13 x12 x11 x10 x9 x8 x7 x6 x5 w_
  rintro ⟨h0_, h1_, h2_, h3_, h4_, h5_, h6_, h7_, h8_, h9_, h10_, h11_, h12_, h13_, h14_, h15_, h16_, h17_, h18_, h19_, h20_, h21_, h22_, h23_, h24_, h25_, h26_, h27_, h28_, h29_, ⟨SN, hN, e27, hI⟩⟩
  obtain rfl := h29_ d29_
  obtain rfl := h28_ d28_
  have g27_ := h27_ d27_
  obtain rfl := h26_ d26_
  obtain rfl := h25_ d25_
  obtain rfl := h24_ d24_
  obtain rfl := h23_ d23_
  obtain rfl := h22_ d22_
  obtain rfl := h21_ d21_
  obtain rfl := h20_ d20_
  obtain rfl := h19_ d19_
  obtain rfl := h18_ d18_
  obtain rfl := h17_ d17_
  obtain rfl := h16_ d16_
  obtain rfl := h15_ d15_
  obtain rfl := h14_ d14_
  obtain rfl := h13_ d13_
  obtain rfl := h12_ d12_
  obtain rfl := h11_ d11_
  obtain rfl := h10_ d10_
  obtain rfl := h9_ d9_
  obtain rfl := h8_ d8_
  obtain rfl := h7_ d7_
  obtain rfl := h6_ d6_
  obtain rfl := h5_ d5_
  obtain rfl := h4_ d4_
  obtain rfl := h3_ d3_
  obtain rfl := h2_ d2_
  obtain rfl := h1_ d1_
  obtain rfl := h0_ d0_
  clear h0_ h1_ h2_ h3_ h4_ h5_ h6_ h7_ h8_ h9_ h10_ h11_ h12_ h13_ h14_ h15_ h16_ h17_ h18_ h19_ h20_ h21_ h22_ h23_ h24_ h25_ h26_ h27_ h28_ h29_
  rw [show orL [lessI (rkI (T.mk k n s ks)) (rkI (T.mk k' n' s' ks')), lessI n n', lessI ks.length ks'.length, beforeS s s', cmpL ks ks'] = cmpT (T.mk k n s ks) (T.mk k' n' s' ks') from hor]
  exact doneS hI hN rfl
end

end Go.Proofs.YtgdibnmabnimaaaGreat

/- spec.l16Put, l16Has. -/
namespace Go.Proofs.YtgdibnmabnimaaaGreat
open Go Go.RowKit
abbrev PostL (ys : List T) : Value → List Item → Store → Prop := fun r I' S' => I' = [] ∧ RdSl S' 4 (RdT S') r ys
theorem insT_split (l : List T) (t : T) (j : Nat) (h : j < l.length) (hc : cmpT l[j] t < 0) : insT (l.drop j) t = l[j] :: insT (l.drop (j + 1)) t := by
  rw [List.drop_eq_getElem_cons h, insT, if_pos hc]
theorem insT_stop (l : List T) (t : T) (j : Nat) (h : j < l.length) (hc : ¬ cmpT l[j] t < 0) : insT (l.drop j) t = if eqT l[j] t = true then l.drop j else t :: l.drop j := by
  rw [List.drop_eq_getElem_cons h, insT, if_neg hc]
section
attribute [local irreducible] Run CondV GuardV LoadV
theorem put_tail {l : List T} {t : T} {S : Store} {v : Value} {cs : List Value} {w w0 : World} {b3 : Nat} {K : Value → World → Prop} (j : Nat) (hI : Inv w0 [] [.blk b3 (.cells cs.toArray t_iTerm)] S w) (h : RdSl S 4 (RdT S) v l) (hcs : RdT S cs t) (hj : j ≤ l.length) (hn : l.length ≤ 1000000)
    (hk : ∀ r S' w', Ext w0.heap.size [] S S' → RdSl S' 4 (RdT S') r (l.take j ++ t :: l.drop j) → Inv w0 [] [] S' w' → K r w') :
    Run Tryz.prog (sBuildSlice t_SiTerm 0 []) w fun t35 w52 =>
    Run Tryz.prog (sOp (.slice t_SiTerm (.const v) none (some (.const (.int .i64 j))) none) t_SiTerm) w52 fun t38 w53 =>
    Run Tryz.prog (sBuiltin .append #[t_SiTerm, t_SiTerm] t_SiTerm [false, false] [t35, t38]) w53 fun t39 w54 =>
    Run Tryz.prog (sOp (.load t_iTerm (.const (.pointer (some ⟨b3, 0, none⟩)))) t_iTerm) w54 fun t41 w55 =>
    Run Tryz.prog (sBuildSlice t_SiTerm 1 [(0, t41)]) w55 fun t42 w56 =>
    Run Tryz.prog (sBuiltin .append #[t_SiTerm, t_SiTerm] t_SiTerm [false, false] [t39, t42]) w56 fun t43 w57 =>
    Run Tryz.prog (sOp (.slice t_SiTerm (.const v) (some (.const (.int .i64 j))) none none) t_SiTerm) w57 fun t47 w58 =>
    Run Tryz.prog (sBuiltin .append #[t_SiTerm, t_SiTerm] t_SiTerm [false, false] [t43, t47]) w58 fun t48 w59 =>
    K t48 w59 := by
  have hlc := hcs.length
  refine r_slice0 hI mk_SiTerm fun v0 w hI => ?_
  refine r_sliceTo sl_SiTerm h hj fun v1 h1 => ?_
  refine r_appendRd hI 1 (css := []) mk_SiTerm (by omega) rfl h1 (fun _ _ => RdT.length) (fun _ _ => RdT.one) (by simp; omega) (by omega) fun v2 w c1 hR1 hI => ?_
  have hI : Inv w0 [] [.blk b3 (.cells cs.toArray t_iTerm), rowG v2 t_iTerm 4 c1] S w := by simpa using hI
  have hc1 := hR1.hc
  simp only [List.length_take] at hc1
  refine r_loadW hI 0 ag_iTerm rfl (by simpa using hlc) ?_
  refine r_append1 hI 1 cs mk_SiTerm (by omega) (by omega) rfl hlc hcs.one (by omega) (by omega) fun v3 w hI => ?_
  have hR2 := hR1.snoc hcs hlc
  refine r_sliceFrom sl_SiTerm h hj fun v4 h4 => ?_
  refine r_appendRd hI 1 (css := c1 ++ [cs]) mk_SiTerm (by omega) rfl h4 (fun _ _ => RdT.length) (fun _ _ => RdT.one) (by simp; omega) (by omega) fun v5 w c2 hR3 hI => ?_
  have hR := hR2.append hR3
  have hI : Inv w0 [] ([.blk b3 (.cells cs.toArray t_iTerm)] ++ [rowG v5 t_iTerm 4 ((c1 ++ [cs]) ++ c2)]) S w := hI
  obtain ⟨S', hE, hrd, hI⟩ := hI.lendExt
  have hr : RdSl S' 4 (RdT S') v5 ((l.take j ++ [t]) ++ l.drop j) := (RowRd.rows hR hrd).mono (Sle.refl _) fun _ _ h => h.mono hE.1
  rw [List.append_assoc] at hr
  exact hk _ _ _ hE hr (hI.pick [false])
theorem l16Put_calls {l : List T} {t : T} {S : Store} {v : Value} {cs : List Value} (h : RdSl S 4 (RdT S) v l) (hcs : RdT S cs t) (hl : ∀ x ∈ l, okO x) (ht : okO t) (hn : l.length ≤ 1000000) :
    Tri Tryz.prog n_s_l16Put [v, .agg cs.toArray] [] S (PostL (insT l t)) := by
  intro w hI
  have hlc := hcs.length
  refine calls_s_l16Put ?_
  unfold sh_s_l16Put
  refine r_box hI fun b3 w' hI => ?_
  have hI : Inv w [] [.blk b3 (.cells cs.toArray t_iTerm)] S w' := hI
  refine ⟨fun i w' => ∃ j : Nat, j ≤ l.length ∧ i = .int .i64 j ∧ l.take j ++ insT (l.drop j) t = insT l t ∧ Inv w [] [.blk b3 (.cells cs.toArray t_iTerm)] S w',
    fun i _ => l.length - (intOf i).toNat, ⟨0, Nat.zero_le _, rfl, rfl, hI⟩, ?_⟩
  intro t5 _ _ _ _ _ _ _ _ _ _ _ _ _ _ _ w'
  rintro ⟨j, hj, rfl, hrel, hI⟩
  by_cases hj' : j < l.length
  · obtain ⟨b, o, cap, c, E, fz, rfl, hS, hR⟩ := h.at_ hj'
    have hox := hl _ (List.getElem_mem hj')
    refine ⟨fun D x19 x18 x17 x16 x15 x14 x13 x12 x11 x10 x9 x8 x7 w_ => (D 0 = true → x7 = .int .i64 j) ∧ (D 1 = true → x8 = .slice (some ⟨b, o, none⟩) l.length cap) ∧ (D 2 = true → x9 = .int .i64 l.length) ∧ (D 3 = true → x10 = .bool true) ∧ (D 4 = true → x11 = .bool true) ∧ (D 5 = true → x12 = .slice (some ⟨b, o, none⟩) l.length cap) ∧ (D 6 = true → x13 = .int .i64 j) ∧ (D 7 = true → x14 = .pointer (some ⟨b, o + j * 4, none⟩)) ∧ (D 8 = true → x15 = .agg (cellsAt c (o + j * 4) 4).toArray) ∧ (D 9 = true → x16 = .agg cs.toArray) ∧ (D 10 = true → x17 = .int .i64 (cmpT l[j] t)) ∧ (D 11 = true → x18 = .bool (decide (cmpT l[j] t < 0))) ∧ (D 12 = true → x19 = .bool (decide (cmpT l[j] t < 0))) ∧ Inv w [] [.blk b3 (.cells cs.toArray t_iTerm)] S w_, ⟨fun h => Bool.noConfusion h, fun h => Bool.noConfusion h, fun h => Bool.noConfusion h, fun h => Bool.noConfusion h, fun h => Bool.noConfusion h, fun h => Bool.noConfusion h, fun h => Bool.noConfusion h, fun h => Bool.noConfusion h, fun h => Bool.noConfusion h, fun h => Bool.noConfusion h, fun h => Bool.noConfusion h, fun h => Bool.noConfusion h, fun h => Bool.noConfusion h, hI.draw⟩, ⟨?_, ?_, ?_, ?_, ?_, ?_, ?_, ?_, ?_, ?_, ?_, ?_, ?_, trivial⟩, ?_⟩
    · intro D hD_  x19 x18 x17 x16 x15 x14 x13 x12 x11 x10 x9 x8 x7 w_
      rintro ⟨h0_, h1_, h2_, h3_, h4_, h5_, h6_, h7_, h8_, h9_, h10_, h11_, h12_, hI⟩
      exact ⟨fun _ => rfl, h1_, h2_, h3_, h4_, h5_, h6_, h7_, h8_, h9_, h10_, h11_, h12_, hI⟩
    · intro D hD_  x19 x18 x17 x16 x15 x14 x13 x12 x11 x10 x9 x8 x7 w_
      rintro ⟨h0_, h1_, h2_, h3_, h4_, h5_, h6_, h7_, h8_, h9_, h10_, h11_, h12_, hI⟩
      exact ⟨h0_, fun _ => rfl, h2_, h3_, h4_, h5_, h6_, h7_, h8_, h9_, h10_, h11_, h12_, hI⟩
    · intro D hD_ d1_0 x19 x18 x17 x16 x15 x14 x13 x12 x11 x10 x9 x8 x7 w_
      rintro ⟨h0_, h1_, h2_, h3_, h4_, h5_, h6_, h7_, h8_, h9_, h10_, h11_, h12_, hI⟩
      obtain rfl := h1_ d1_0
      refine r_len sl_SiTerm ?_
      exact ⟨h0_, h1_, fun _ => rfl, h3_, h4_, h5_, h6_, h7_, h8_, h9_, h10_, h11_, h12_, hI⟩
    · intro D hD_ d0_0 d2_1 x19 x18 x17 x16 x15 x14 x13 x12 x11 x10 x9 x8 x7 w_
      rintro ⟨h0_, h1_, h2_, h3_, h4_, h5_, h6_, h7_, h8_, h9_, h10_, h11_, h12_, hI⟩
      obtain rfl := h0_ d0_0
      obtain rfl := h2_ d2_1
      refine r_lss ?_; rw [decide_eq_true (show (j : Int) < (l.length : Int) by omega)]
      exact ⟨h0_, h1_, h2_, fun _ => rfl, h4_, h5_, h6_, h7_, h8_, h9_, h10_, h11_, h12_, hI⟩
    · intro D hD_ d3_0 x19 x18 x17 x16 x15 x14 x13 x12 x11 x10 x9 x8 x7 w_
      rintro ⟨h0_, h1_, h2_, h3_, h4_, h5_, h6_, h7_, h8_, h9_, h10_, h11_, h12_, hI⟩
      obtain rfl := h3_ d3_0
      exact ⟨h0_, h1_, h2_, h3_, fun _ => rfl, h5_, h6_, h7_, h8_, h9_, h10_, h11_, h12_, hI⟩
    · intro D hD_ d4_0 x19 x18 x17 x16 x15 x14 x13 x12 x11 x10 x9 x8 x7 w_
      rintro ⟨h0_, h1_, h2_, h3_, h4_, h5_, h6_, h7_, h8_, h9_, h10_, h11_, h12_, hI⟩
      obtain rfl := h4_ d4_0
      repeat (first | refine guard_true ?_ | refine guard_ne (by decide) ?_ | refine guard_undef ?_ | refine r_pickT ?_ | refine r_pickF ?_)
      exact ⟨h0_, h1_, h2_, h3_, h4_, fun _ => rfl, h6_, h7_, h8_, h9_, h10_, h11_, h12_, hI⟩
    · intro D hD_ d4_0 x19 x18 x17 x16 x15 x14 x13 x12 x11 x10 x9 x8 x7 w_
      rintro ⟨h0_, h1_, h2_, h3_, h4_, h5_, h6_, h7_, h8_, h9_, h10_, h11_, h12_, hI⟩
      obtain rfl := h4_ d4_0
      repeat (first | refine guard_true ?_ | refine guard_ne (by decide) ?_ | refine guard_undef ?_ | refine r_pickT ?_ | refine r_pickF ?_)
      exact ⟨h0_, h1_, h2_, h3_, h4_, h5_, fun _ => rfl, h7_, h8_, h9_, h10_, h11_, h12_, hI⟩
    · intro D hD_ d5_0 d6_1 d4_2 x19 x18 x17 x16 x15 x14 x13 x12 x11 x10 x9 x8 x7 w_
      rintro ⟨h0_, h1_, h2_, h3_, h4_, h5_, h6_, h7_, h8_, h9_, h10_, h11_, h12_, hI⟩
      obtain rfl := h5_ d5_0
      obtain rfl := h6_ d6_1
      obtain rfl := h4_ d4_2
      repeat (first | refine guard_true ?_ | refine guard_ne (by decide) ?_ | refine guard_undef ?_ | refine r_pickT ?_ | refine r_pickF ?_)
      refine r_indexAddr sl_SiTerm hj' ?_
      exact ⟨h0_, h1_, h2_, h3_, h4_, h5_, h6_, fun _ => rfl, h8_, h9_, h10_, h11_, h12_, hI⟩
    · intro D hD_ d7_0 d4_1 x19 x18 x17 x16 x15 x14 x13 x12 x11 x10 x9 x8 x7 w_
      rintro ⟨h0_, h1_, h2_, h3_, h4_, h5_, h6_, h7_, h8_, h9_, h10_, h11_, h12_, hI⟩
      obtain rfl := h7_ d7_0
      obtain rfl := h4_ d4_1
      repeat (first | refine guard_true ?_ | refine guard_ne (by decide) ?_ | refine guard_undef ?_ | refine r_pickT ?_ | refine r_pickF ?_)
      refine r_loadA ag_iTerm hR.length (fun j v hj => by rw [hI.cellS hS]; exact cellsAt_get rfl j v hj) ?_
      exact ⟨h0_, h1_, h2_, h3_, h4_, h5_, h6_, h7_, fun _ => rfl, h9_, h10_, h11_, h12_, hI⟩
    · intro D hD_ d4_0 x19 x18 x17 x16 x15 x14 x13 x12 x11 x10 x9 x8 x7 w_
      rintro ⟨h0_, h1_, h2_, h3_, h4_, h5_, h6_, h7_, h8_, h9_, h10_, h11_, h12_, hI⟩
      obtain rfl := h4_ d4_0
      repeat (first | refine guard_true ?_ | refine guard_ne (by decide) ?_ | refine guard_undef ?_ | refine r_pickT ?_ | refine r_pickF ?_)
      refine r_loadW hI 0 ag_iTerm rfl (by simpa using hlc) ?_
      exact ⟨h0_, h1_, h2_, h3_, h4_, h5_, h6_, h7_, h8_, fun _ => rfl, h10_, h11_, h12_, hI⟩
    · intro D hD_ d8_0 d9_1 d4_2 d4_3 x19 x18 x17 x16 x15 x14 x13 x12 x11 x10 x9 x8 x7 w_
      rintro ⟨h0_, h1_, h2_, h3_, h4_, h5_, h6_, h7_, h8_, h9_, h10_, h11_, h12_, hI⟩
      obtain rfl := h8_ d8_0
      obtain rfl := h9_ d9_1
      obtain rfl := h4_ d4_2
      repeat (first | refine guard_true ?_ | refine guard_ne (by decide) ?_ | refine guard_undef ?_ | refine r_pickT ?_ | refine r_pickF ?_)
      refine Run.callPure fn_s_l1Compare nm_s_l1Compare hI (l1Compare_calls _ _ S _ _ hR hcs hox ht) fun w_ hI => ?_
      exact ⟨h0_, h1_, h2_, h3_, h4_, h5_, h6_, h7_, h8_, h9_, fun _ => rfl, h11_, h12_, hI⟩
    · intro D hD_ d10_0 d4_1 x19 x18 x17 x16 x15 x14 x13 x12 x11 x10 x9 x8 x7 w_
      rintro ⟨h0_, h1_, h2_, h3_, h4_, h5_, h6_, h7_, h8_, h9_, h10_, h11_, h12_, hI⟩
      obtain rfl := h10_ d10_0
      obtain rfl := h4_ d4_1
      repeat (first | refine guard_true ?_ | refine guard_ne (by decide) ?_ | refine guard_undef ?_ | refine r_pickT ?_ | refine r_pickF ?_)
      refine r_lss ?_
      exact ⟨h0_, h1_, h2_, h3_, h4_, h5_, h6_, h7_, h8_, h9_, h10_, fun _ => rfl, h12_, hI⟩
    · intro D hD_ d4_0 d11_1 x19 x18 x17 x16 x15 x14 x13 x12 x11 x10 x9 x8 x7 w_
      rintro ⟨h0_, h1_, h2_, h3_, h4_, h5_, h6_, h7_, h8_, h9_, h10_, h11_, h12_, hI⟩
      obtain rfl := h4_ d4_0
      obtain rfl := h11_ d11_1
      repeat (first | refine guard_true ?_ | refine guard_ne (by decide) ?_ | refine guard_undef ?_ | refine r_pickT ?_ | refine r_pickF ?_)
      exact ⟨h0_, h1_, h2_, h3_, h4_, h5_, h6_, h7_, h8_, h9_, h10_, h11_, fun _ => rfl, hI⟩
    intro D d12_ d11_ d10_ d9_ d8_ d7_ d6_ d5_ d4_ d3_ d2_ d1_ d0_ x19 x18 x17 x16 x15 x14 x13 x12 x11 x10 x9 x8 x7 w_
    rintro ⟨h0_, h1_, h2_, h3_, h4_, h5_, h6_, h7_, h8_, h9_, h10_, h11_, h12_, hI⟩
    obtain rfl := h12_ d12_
    obtain rfl := h11_ d11_
    obtain rfl := h10_ d10_
    obtain rfl := h9_ d9_
    obtain rfl := h8_ d8_
    obtain rfl := h7_ d7_
    obtain rfl := h6_ d6_
    obtain rfl := h5_ d5_
    obtain rfl := h4_ d4_
    obtain rfl := h3_ d3_
    obtain rfl := h2_ d2_
    obtain rfl := h1_ d1_
    obtain rfl := h0_ d0_
    clear h0_ h1_ h2_ h3_ h4_ h5_ h6_ h7_ h8_ h9_ h10_ h11_ h12_
    refine condP (fun hc => ?_) (fun hc => ?_)
    · refine r_add (by omega) ?_
      refine ⟨⟨j + 1, hj', rfl, ?_, hI⟩, by simp [intOf]; omega⟩
      rw [← hrel, insT_split l t j hj' hc, List.take_succ_eq_append_getElem hj', List.append_assoc]
      rfl
    rw [insT_stop l t j hj' hc] at hrel
    refine ⟨fun D x33 x32 x31 x30 x29 x28 x27 x26 x25 x24 x23 x22 w_ => (D 0 = true → x22 = .int .i64 j) ∧ (D 1 = true → x23 = .slice (some ⟨b, o, none⟩) l.length cap) ∧ (D 2 = true → x24 = .int .i64 l.length) ∧ (D 3 = true → x25 = .bool true) ∧ (D 4 = true → x26 = .bool true) ∧ (D 5 = true → x27 = .slice (some ⟨b, o, none⟩) l.length cap) ∧ (D 6 = true → x28 = .int .i64 j) ∧ (D 7 = true → x29 = .pointer (some ⟨b, o + j * 4, none⟩)) ∧ (D 8 = true → x30 = .agg (cellsAt c (o + j * 4) 4).toArray) ∧ (D 9 = true → x31 = .agg cs.toArray) ∧ (D 10 = true → x32 = .bool (eqT l[j] t)) ∧ (D 11 = true → x33 = .bool (eqT l[j] t)) ∧ Inv w [] [.blk b3 (.cells cs.toArray t_iTerm)] S w_, ⟨fun h => Bool.noConfusion h, fun h => Bool.noConfusion h, fun h => Bool.noConfusion h, fun h => Bool.noConfusion h, fun h => Bool.noConfusion h, fun h => Bool.noConfusion h, fun h => Bool.noConfusion h, fun h => Bool.noConfusion h, fun h => Bool.noConfusion h, fun h => Bool.noConfusion h, fun h => Bool.noConfusion h, fun h => Bool.noConfusion h, hI.draw⟩, ⟨?_, ?_, ?_, ?_, ?_, ?_, ?_, ?_, ?_, ?_, ?_, ?_, trivial⟩, ?_⟩
    · intro D hD_  x33 x32 x31 x30 x29 x28 x27 x26 x25 x24 x23 x22 w_
      rintro ⟨h0_, h1_, h2_, h3_, h4_, h5_, h6_, h7_, h8_, h9_, h10_, h11_, hI⟩
      exact ⟨fun _ => rfl, h1_, h2_, h3_, h4_, h5_, h6_, h7_, h8_, h9_, h10_, h11_, hI⟩
    · intro D hD_  x33 x32 x31 x30 x29 x28 x27 x26 x25 x24 x23 x22 w_
      rintro ⟨h0_, h1_, h2_, h3_, h4_, h5_, h6_, h7_, h8_, h9_, h10_, h11_, hI⟩
      exact ⟨h0_, fun _ => rfl, h2_, h3_, h4_, h5_, h6_, h7_, h8_, h9_, h10_, h11_, hI⟩
    · intro D hD_ d1_0 x33 x32 x31 x30 x29 x28 x27 x26 x25 x24 x23 x22 w_
      rintro ⟨h0_, h1_, h2_, h3_, h4_, h5_, h6_, h7_, h8_, h9_, h10_, h11_, hI⟩
      obtain rfl := h1_ d1_0
      refine r_len sl_SiTerm ?_
      exact ⟨h0_, h1_, fun _ => rfl, h3_, h4_, h5_, h6_, h7_, h8_, h9_, h10_, h11_, hI⟩
    · intro D hD_ d0_0 d2_1 x33 x32 x31 x30 x29 x28 x27 x26 x25 x24 x23 x22 w_
      rintro ⟨h0_, h1_, h2_, h3_, h4_, h5_, h6_, h7_, h8_, h9_, h10_, h11_, hI⟩
      obtain rfl := h0_ d0_0
      obtain rfl := h2_ d2_1
      refine r_lss ?_; rw [decide_eq_true (show (j : Int) < (l.length : Int) by omega)]
      exact ⟨h0_, h1_, h2_, fun _ => rfl, h4_, h5_, h6_, h7_, h8_, h9_, h10_, h11_, hI⟩
    · intro D hD_ d3_0 x33 x32 x31 x30 x29 x28 x27 x26 x25 x24 x23 x22 w_
      rintro ⟨h0_, h1_, h2_, h3_, h4_, h5_, h6_, h7_, h8_, h9_, h10_, h11_, hI⟩
      obtain rfl := h3_ d3_0
      exact ⟨h0_, h1_, h2_, h3_, fun _ => rfl, h5_, h6_, h7_, h8_, h9_, h10_, h11_, hI⟩
    · intro D hD_ d4_0 x33 x32 x31 x30 x29 x28 x27 x26 x25 x24 x23 x22 w_
      rintro ⟨h0_, h1_, h2_, h3_, h4_, h5_, h6_, h7_, h8_, h9_, h10_, h11_, hI⟩
      obtain rfl := h4_ d4_0
      repeat (first | refine guard_true ?_ | refine guard_ne (by decide) ?_ | refine guard_undef ?_ | refine r_pickT ?_ | refine r_pickF ?_)
      exact ⟨h0_, h1_, h2_, h3_, h4_, fun _ => rfl, h6_, h7_, h8_, h9_, h10_, h11_, hI⟩
    · intro D hD_ d4_0 x33 x32 x31 x30 x29 x28 x27 x26 x25 x24 x23 x22 w_
      rintro ⟨h0_, h1_, h2_, h3_, h4_, h5_, h6_, h7_, h8_, h9_, h10_, h11_, hI⟩
      obtain rfl := h4_ d4_0
      repeat (first | refine guard_true ?_ | refine guard_ne (by decide) ?_ | refine guard_undef ?_ | refine r_pickT ?_ | refine r_pickF ?_)
      exact ⟨h0_, h1_, h2_, h3_, h4_, h5_, fun _ => rfl, h7_, h8_, h9_, h10_, h11_, hI⟩
    · intro D hD_ d5_0 d6_1 d4_2 x33 x32 x31 x30 x29 x28 x27 x26 x25 x24 x23 x22 w_
      rintro ⟨h0_, h1_, h2_, h3_, h4_, h5_, h6_, h7_, h8_, h9_, h10_, h11_, hI⟩
      obtain rfl := h5_ d5_0
      obtain rfl := h6_ d6_1
      obtain rfl := h4_ d4_2
      repeat (first | refine guard_true ?_ | refine guard_ne (by decide) ?_ | refine guard_undef ?_ | refine r_pickT ?_ | refine r_pickF ?_)
      refine r_indexAddr sl_SiTerm hj' ?_
      exact ⟨h0_, h1_, h2_, h3_, h4_, h5_, h6_, fun _ => rfl, h8_, h9_, h10_, h11_, hI⟩
    · intro D hD_ d7_0 d4_1 x33 x32 x31 x30 x29 x28 x27 x26 x25 x24 x23 x22 w_
      rintro ⟨h0_, h1_, h2_, h3_, h4_, h5_, h6_, h7_, h8_, h9_, h10_, h11_, hI⟩
      obtain rfl := h7_ d7_0
      obtain rfl := h4_ d4_1
      repeat (first | refine guard_true ?_ | refine guard_ne (by decide) ?_ | refine guard_undef ?_ | refine r_pickT ?_ | refine r_pickF ?_)
      refine r_loadA ag_iTerm hR.length (fun j v hj => by rw [hI.cellS hS]; exact cellsAt_get rfl j v hj) ?_
      exact ⟨h0_, h1_, h2_, h3_, h4_, h5_, h6_, h7_, fun _ => rfl, h9_, h10_, h11_, hI⟩
    · intro D hD_ d4_0 x33 x32 x31 x30 x29 x28 x27 x26 x25 x24 x23 x22 w_
      rintro ⟨h0_, h1_, h2_, h3_, h4_, h5_, h6_, h7_, h8_, h9_, h10_, h11_, hI⟩
      obtain rfl := h4_ d4_0
      repeat (first | refine guard_true ?_ | refine guard_ne (by decide) ?_ | refine guard_undef ?_ | refine r_pickT ?_ | refine r_pickF ?_)
      refine r_loadW hI 0 ag_iTerm rfl (by simpa using hlc) ?_
      exact ⟨h0_, h1_, h2_, h3_, h4_, h5_, h6_, h7_, h8_, fun _ => rfl, h10_, h11_, hI⟩
    · intro D hD_ d8_0 d9_1 d4_2 d4_3 x33 x32 x31 x30 x29 x28 x27 x26 x25 x24 x23 x22 w_
      rintro ⟨h0_, h1_, h2_, h3_, h4_, h5_, h6_, h7_, h8_, h9_, h10_, h11_, hI⟩
      obtain rfl := h8_ d8_0
      obtain rfl := h9_ d9_1
      obtain rfl := h4_ d4_2
      repeat (first | refine guard_true ?_ | refine guard_ne (by decide) ?_ | refine guard_undef ?_ | refine r_pickT ?_ | refine r_pickF ?_)
      refine Run.callPure fn_s_TermSame nm_s_TermSame hI (s_TermSame_calls _ _ S _ _ hR hcs) fun w_ hI => ?_
      exact ⟨h0_, h1_, h2_, h3_, h4_, h5_, h6_, h7_, h8_, h9_, fun _ => rfl, h11_, hI⟩
    · intro D hD_ d4_0 d10_1 x33 x32 x31 x30 x29 x28 x27 x26 x25 x24 x23 x22 w_
      rintro ⟨h0_, h1_, h2_, h3_, h4_, h5_, h6_, h7_, h8_, h9_, h10_, h11_, hI⟩
      obtain rfl := h4_ d4_0
      obtain rfl := h10_ d10_1
      repeat (first | refine guard_true ?_ | refine guard_ne (by decide) ?_ | refine guard_undef ?_ | refine r_pickT ?_ | refine r_pickF ?_)
      exact ⟨h0_, h1_, h2_, h3_, h4_, h5_, h6_, h7_, h8_, h9_, h10_, fun _ => rfl, hI⟩
    intro D d11_ d10_ d9_ d8_ d7_ d6_ d5_ d4_ d3_ d2_ d1_ d0_ x33 x32 x31 x30 x29 x28 x27 x26 x25 x24 x23 x22 w_
    rintro ⟨h0_, h1_, h2_, h3_, h4_, h5_, h6_, h7_, h8_, h9_, h10_, h11_, hI⟩
    obtain rfl := h11_ d11_
    obtain rfl := h10_ d10_
    obtain rfl := h9_ d9_
    obtain rfl := h8_ d8_
    obtain rfl := h7_ d7_
    obtain rfl := h6_ d6_
    obtain rfl := h5_ d5_
    obtain rfl := h4_ d4_
    obtain rfl := h3_ d3_
    obtain rfl := h2_ d2_
    obtain rfl := h1_ d1_
    obtain rfl := h0_ d0_
    clear h0_ h1_ h2_ h3_ h4_ h5_ h6_ h7_ h8_ h9_ h10_ h11_
    refine condV (fun he => ?_) (fun he => ?_)
    · rw [if_pos he, List.take_append_drop] at hrel
      rw [← hrel]
      exact ⟨_, _, _, rfl, hI.pick [false], Ext.refl _ _ _, rfl, h⟩
    · rw [if_neg (by rw [he]; decide)] at hrel
      rw [← hrel]
      exact put_tail j hI h hcs hj hn fun r S' w' hE hr hI => ⟨_, _, _, rfl, hI, hE, rfl, hr⟩
  · have hje : j = l.length := by omega
    have hv : ∃ a m, v = .slice a l.length m := by
      obtain ⟨a, m, e, _⟩ := h
      exact ⟨a, m, e⟩
    obtain ⟨a, m, rfl⟩ := hv
    rw [List.drop_eq_nil_of_le (by omega), insT] at hrel
    refine ⟨fun D x19 x18 x17 x16 x15 x14 x13 x12 x11 x10 x9 x8 x7 w_ => (D 0 = true → x7 = .int .i64 j) ∧ (D 1 = true → x8 = .slice a l.length m) ∧ (D 2 = true → x9 = .int .i64 l.length) ∧ (D 3 = true → x10 = .bool false) ∧ (D 4 = true → x11 = .bool false) ∧ (D 5 = true → x12 = undef) ∧ (D 6 = true → x13 = undef) ∧ (D 7 = true → x14 = undef) ∧ (D 8 = true → x15 = undef) ∧ (D 9 = true → x16 = undef) ∧ (D 10 = true → x17 = undef) ∧ (D 11 = true → x18 = undef) ∧ (D 12 = true → x19 = .bool false) ∧ Inv w [] [.blk b3 (.cells cs.toArray t_iTerm)] S w_, ⟨fun h => Bool.noConfusion h, fun h => Bool.noConfusion h, fun h => Bool.noConfusion h, fun h => Bool.noConfusion h, fun h => Bool.noConfusion h, fun h => Bool.noConfusion h, fun h => Bool.noConfusion h, fun h => Bool.noConfusion h, fun h => Bool.noConfusion h, fun h => Bool.noConfusion h, fun h => Bool.noConfusion h, fun h => Bool.noConfusion h, fun h => Bool.noConfusion h, hI.draw⟩, ⟨?_, ?_, ?_, ?_, ?_, ?_, ?_, ?_, ?_, ?_, ?_, ?_, ?_, trivial⟩, ?_⟩
    · intro D hD_  x19 x18 x17 x16 x15 x14 x13 x12 x11 x10 x9 x8 x7 w_
      rintro ⟨h0_, h1_, h2_, h3_, h4_, h5_, h6_, h7_, h8_, h9_, h10_, h11_, h12_, hI⟩
      exact ⟨fun _ => rfl, h1_, h2_, h3_, h4_, h5_, h6_, h7_, h8_, h9_, h10_, h11_, h12_, hI⟩
    · intro D hD_  x19 x18 x17 x16 x15 x14 x13 x12 x11 x10 x9 x8 x7 w_
      rintro ⟨h0_, h1_, h2_, h3_, h4_, h5_, h6_, h7_, h8_, h9_, h10_, h11_, h12_, hI⟩
      exact ⟨h0_, fun _ => rfl, h2_, h3_, h4_, h5_, h6_, h7_, h8_, h9_, h10_, h11_, h12_, hI⟩
    · intro D hD_ d1_0 x19 x18 x17 x16 x15 x14 x13 x12 x11 x10 x9 x8 x7 w_
      rintro ⟨h0_, h1_, h2_, h3_, h4_, h5_, h6_, h7_, h8_, h9_, h10_, h11_, h12_, hI⟩
      obtain rfl := h1_ d1_0
      refine r_len sl_SiTerm ?_
      exact ⟨h0_, h1_, fun _ => rfl, h3_, h4_, h5_, h6_, h7_, h8_, h9_, h10_, h11_, h12_, hI⟩
    · intro D hD_ d0_0 d2_1 x19 x18 x17 x16 x15 x14 x13 x12 x11 x10 x9 x8 x7 w_
      rintro ⟨h0_, h1_, h2_, h3_, h4_, h5_, h6_, h7_, h8_, h9_, h10_, h11_, h12_, hI⟩
      obtain rfl := h0_ d0_0
      obtain rfl := h2_ d2_1
      refine r_lss ?_; rw [decide_eq_false (show ¬ (j : Int) < (l.length : Int) by omega)]
      exact ⟨h0_, h1_, h2_, fun _ => rfl, h4_, h5_, h6_, h7_, h8_, h9_, h10_, h11_, h12_, hI⟩
    · intro D hD_ d3_0 x19 x18 x17 x16 x15 x14 x13 x12 x11 x10 x9 x8 x7 w_
      rintro ⟨h0_, h1_, h2_, h3_, h4_, h5_, h6_, h7_, h8_, h9_, h10_, h11_, h12_, hI⟩
      obtain rfl := h3_ d3_0
      exact ⟨h0_, h1_, h2_, h3_, fun _ => rfl, h5_, h6_, h7_, h8_, h9_, h10_, h11_, h12_, hI⟩
    · intro D hD_ d4_0 x19 x18 x17 x16 x15 x14 x13 x12 x11 x10 x9 x8 x7 w_
      rintro ⟨h0_, h1_, h2_, h3_, h4_, h5_, h6_, h7_, h8_, h9_, h10_, h11_, h12_, hI⟩
      obtain rfl := h4_ d4_0
      repeat (first | refine guard_true ?_ | refine guard_ne (by decide) ?_ | refine guard_undef ?_ | refine r_pickT ?_ | refine r_pickF ?_)
      exact ⟨h0_, h1_, h2_, h3_, h4_, fun _ => rfl, h6_, h7_, h8_, h9_, h10_, h11_, h12_, hI⟩
    · intro D hD_ d4_0 x19 x18 x17 x16 x15 x14 x13 x12 x11 x10 x9 x8 x7 w_
      rintro ⟨h0_, h1_, h2_, h3_, h4_, h5_, h6_, h7_, h8_, h9_, h10_, h11_, h12_, hI⟩
      obtain rfl := h4_ d4_0
      repeat (first | refine guard_true ?_ | refine guard_ne (by decide) ?_ | refine guard_undef ?_ | refine r_pickT ?_ | refine r_pickF ?_)
      exact ⟨h0_, h1_, h2_, h3_, h4_, h5_, fun _ => rfl, h7_, h8_, h9_, h10_, h11_, h12_, hI⟩
    · intro D hD_ d5_0 d6_1 d4_2 x19 x18 x17 x16 x15 x14 x13 x12 x11 x10 x9 x8 x7 w_
      rintro ⟨h0_, h1_, h2_, h3_, h4_, h5_, h6_, h7_, h8_, h9_, h10_, h11_, h12_, hI⟩
      obtain rfl := h5_ d5_0
      obtain rfl := h6_ d6_1
      obtain rfl := h4_ d4_2
      repeat (first | refine guard_true ?_ | refine guard_ne (by decide) ?_ | refine guard_undef ?_ | refine r_pickT ?_ | refine r_pickF ?_)
      exact ⟨h0_, h1_, h2_, h3_, h4_, h5_, h6_, fun _ => rfl, h8_, h9_, h10_, h11_, h12_, hI⟩
    · intro D hD_ d7_0 d4_1 x19 x18 x17 x16 x15 x14 x13 x12 x11 x10 x9 x8 x7 w_
      rintro ⟨h0_, h1_, h2_, h3_, h4_, h5_, h6_, h7_, h8_, h9_, h10_, h11_, h12_, hI⟩
      obtain rfl := h7_ d7_0
      obtain rfl := h4_ d4_1
      repeat (first | refine guard_true ?_ | refine guard_ne (by decide) ?_ | refine guard_undef ?_ | refine r_pickT ?_ | refine r_pickF ?_)
      exact ⟨h0_, h1_, h2_, h3_, h4_, h5_, h6_, h7_, fun _ => rfl, h9_, h10_, h11_, h12_, hI⟩
    · intro D hD_ d4_0 x19 x18 x17 x16 x15 x14 x13 x12 x11 x10 x9 x8 x7 w_
      rintro ⟨h0_, h1_, h2_, h3_, h4_, h5_, h6_, h7_, h8_, h9_, h10_, h11_, h12_, hI⟩
      obtain rfl := h4_ d4_0
      repeat (first | refine guard_true ?_ | refine guard_ne (by decide) ?_ | refine guard_undef ?_ | refine r_pickT ?_ | refine r_pickF ?_)
      exact ⟨h0_, h1_, h2_, h3_, h4_, h5_, h6_, h7_, h8_, fun _ => rfl, h10_, h11_, h12_, hI⟩
    · intro D hD_ d8_0 d9_1 d4_2 d4_3 x19 x18 x17 x16 x15 x14 x13 x12 x11 x10 x9 x8 x7 w_
      rintro ⟨h0_, h1_, h2_, h3_, h4_, h5_, h6_, h7_, h8_, h9_, h10_, h11_, h12_, hI⟩
      obtain rfl := h8_ d8_0
      obtain rfl := h9_ d9_1
      obtain rfl := h4_ d4_2
      repeat (first | refine guard_true ?_ | refine guard_ne (by decide) ?_ | refine guard_undef ?_ | refine r_pickT ?_ | refine r_pickF ?_)
      exact ⟨h0_, h1_, h2_, h3_, h4_, h5_, h6_, h7_, h8_, h9_, fun _ => rfl, h11_, h12_, hI⟩
    · intro D hD_ d10_0 d4_1 x19 x18 x17 x16 x15 x14 x13 x12 x11 x10 x9 x8 x7 w_
      rintro ⟨h0_, h1_, h2_, h3_, h4_, h5_, h6_, h7_, h8_, h9_, h10_, h11_, h12_, hI⟩
      obtain rfl := h10_ d10_0
      obtain rfl := h4_ d4_1
      repeat (first | refine guard_true ?_ | refine guard_ne (by decide) ?_ | refine guard_undef ?_ | refine r_pickT ?_ | refine r_pickF ?_)
      exact ⟨h0_, h1_, h2_, h3_, h4_, h5_, h6_, h7_, h8_, h9_, h10_, fun _ => rfl, h12_, hI⟩
    · intro D hD_ d4_0 d11_1 x19 x18 x17 x16 x15 x14 x13 x12 x11 x10 x9 x8 x7 w_
      rintro ⟨h0_, h1_, h2_, h3_, h4_, h5_, h6_, h7_, h8_, h9_, h10_, h11_, h12_, hI⟩
      obtain rfl := h4_ d4_0
      obtain rfl := h11_ d11_1
      repeat (first | refine guard_true ?_ | refine guard_ne (by decide) ?_ | refine guard_undef ?_ | refine r_pickT ?_ | refine r_pickF ?_)
      exact ⟨h0_, h1_, h2_, h3_, h4_, h5_, h6_, h7_, h8_, h9_, h10_, h11_, fun _ => rfl, hI⟩
    intro D d12_ d11_ d10_ d9_ d8_ d7_ d6_ d5_ d4_ d3_ d2_ d1_ d0_ x19 x18 x17 x16 x15 x14 x13 x12 x11 x10 x9 x8 x7 w_
    rintro ⟨h0_, h1_, h2_, h3_, h4_, h5_, h6_, h7_, h8_, h9_, h10_, h11_, h12_, hI⟩
    obtain rfl := h12_ d12_
    obtain rfl := h11_ d11_
    obtain rfl := h10_ d10_
    obtain rfl := h9_ d9_
    obtain rfl := h8_ d8_
    obtain rfl := h7_ d7_
    obtain rfl := h6_ d6_
    obtain rfl := h5_ d5_
    obtain rfl := h4_ d4_
    obtain rfl := h3_ d3_
    obtain rfl := h2_ d2_
    obtain rfl := h1_ d1_
    obtain rfl := h0_ d0_
    clear h0_ h1_ h2_ h3_ h4_ h5_ h6_ h7_ h8_ h9_ h10_ h11_ h12_
    refine condV (fun hb => by cases hb) (fun _ => ?_)
    refine ⟨fun D x33 x32 x31 x30 x29 x28 x27 x26 x25 x24 x23 x22 w_ => (D 0 = true → x22 = .int .i64 j) ∧ (D 1 = true → x23 = .slice a l.length m) ∧ (D 2 = true → x24 = .int .i64 l.length) ∧ (D 3 = true → x25 = .bool false) ∧ (D 4 = true → x26 = .bool false) ∧ (D 5 = true → x27 = undef) ∧ (D 6 = true → x28 = undef) ∧ (D 7 = true → x29 = undef) ∧ (D 8 = true → x30 = undef) ∧ (D 9 = true → x31 = undef) ∧ (D 10 = true → x32 = undef) ∧ (D 11 = true → x33 = .bool false) ∧ Inv w [] [.blk b3 (.cells cs.toArray t_iTerm)] S w_, ⟨fun h => Bool.noConfusion h, fun h => Bool.noConfusion h, fun h => Bool.noConfusion h, fun h => Bool.noConfusion h, fun h => Bool.noConfusion h, fun h => Bool.noConfusion h, fun h => Bool.noConfusion h, fun h => Bool.noConfusion h, fun h => Bool.noConfusion h, fun h => Bool.noConfusion h, fun h => Bool.noConfusion h, fun h => Bool.noConfusion h, hI.draw⟩, ⟨?_, ?_, ?_, ?_, ?_, ?_, ?_, ?_, ?_, ?_, ?_, ?_, trivial⟩, ?_⟩
    · intro D hD_  x33 x32 x31 x30 x29 x28 x27 x26 x25 x24 x23 x22 w_
      rintro ⟨h0_, h1_, h2_, h3_, h4_, h5_, h6_, h7_, h8_, h9_, h10_, h11_, hI⟩
      exact ⟨fun _ => rfl, h1_, h2_, h3_, h4_, h5_, h6_, h7_, h8_, h9_, h10_, h11_, hI⟩
    · intro D hD_  x33 x32 x31 x30 x29 x28 x27 x26 x25 x24 x23 x22 w_
      rintro ⟨h0_, h1_, h2_, h3_, h4_, h5_, h6_, h7_, h8_, h9_, h10_, h11_, hI⟩
      exact ⟨h0_, fun _ => rfl, h2_, h3_, h4_, h5_, h6_, h7_, h8_, h9_, h10_, h11_, hI⟩
    · intro D hD_ d1_0 x33 x32 x31 x30 x29 x28 x27 x26 x25 x24 x23 x22 w_
      rintro ⟨h0_, h1_, h2_, h3_, h4_, h5_, h6_, h7_, h8_, h9_, h10_, h11_, hI⟩
      obtain rfl := h1_ d1_0
      refine r_len sl_SiTerm ?_
      exact ⟨h0_, h1_, fun _ => rfl, h3_, h4_, h5_, h6_, h7_, h8_, h9_, h10_, h11_, hI⟩
    · intro D hD_ d0_0 d2_1 x33 x32 x31 x30 x29 x28 x27 x26 x25 x24 x23 x22 w_
      rintro ⟨h0_, h1_, h2_, h3_, h4_, h5_, h6_, h7_, h8_, h9_, h10_, h11_, hI⟩
      obtain rfl := h0_ d0_0
      obtain rfl := h2_ d2_1
      refine r_lss ?_; rw [decide_eq_false (show ¬ (j : Int) < (l.length : Int) by omega)]
      exact ⟨h0_, h1_, h2_, fun _ => rfl, h4_, h5_, h6_, h7_, h8_, h9_, h10_, h11_, hI⟩
    · intro D hD_ d3_0 x33 x32 x31 x30 x29 x28 x27 x26 x25 x24 x23 x22 w_
      rintro ⟨h0_, h1_, h2_, h3_, h4_, h5_, h6_, h7_, h8_, h9_, h10_, h11_, hI⟩
      obtain rfl := h3_ d3_0
      exact ⟨h0_, h1_, h2_, h3_, fun _ => rfl, h5_, h6_, h7_, h8_, h9_, h10_, h11_, hI⟩
    · intro D hD_ d4_0 x33 x32 x31 x30 x29 x28 x27 x26 x25 x24 x23 x22 w_
      rintro ⟨h0_, h1_, h2_, h3_, h4_, h5_, h6_, h7_, h8_, h9_, h10_, h11_, hI⟩
      obtain rfl := h4_ d4_0
      repeat (first | refine guard_true ?_ | refine guard_ne (by decide) ?_ | refine guard_undef ?_ | refine r_pickT ?_ | refine r_pickF ?_)
      exact ⟨h0_, h1_, h2_, h3_, h4_, fun _ => rfl, h6_, h7_, h8_, h9_, h10_, h11_, hI⟩
    · intro D hD_ d4_0 x33 x32 x31 x30 x29 x28 x27 x26 x25 x24 x23 x22 w_
      rintro ⟨h0_, h1_, h2_, h3_, h4_, h5_, h6_, h7_, h8_, h9_, h10_, h11_, hI⟩
      obtain rfl := h4_ d4_0
      repeat (first | refine guard_true ?_ | refine guard_ne (by decide) ?_ | refine guard_undef ?_ | refine r_pickT ?_ | refine r_pickF ?_)
      exact ⟨h0_, h1_, h2_, h3_, h4_, h5_, fun _ => rfl, h7_, h8_, h9_, h10_, h11_, hI⟩
    · intro D hD_ d5_0 d6_1 d4_2 x33 x32 x31 x30 x29 x28 x27 x26 x25 x24 x23 x22 w_
      rintro ⟨h0_, h1_, h2_, h3_, h4_, h5_, h6_, h7_, h8_, h9_, h10_, h11_, hI⟩
      obtain rfl := h5_ d5_0
      obtain rfl := h6_ d6_1
      obtain rfl := h4_ d4_2
      repeat (first | refine guard_true ?_ | refine guard_ne (by decide) ?_ | refine guard_undef ?_ | refine r_pickT ?_ | refine r_pickF ?_)
      exact ⟨h0_, h1_, h2_, h3_, h4_, h5_, h6_, fun _ => rfl, h8_, h9_, h10_, h11_, hI⟩
    · intro D hD_ d7_0 d4_1 x33 x32 x31 x30 x29 x28 x27 x26 x25 x24 x23 x22 w_
      rintro ⟨h0_, h1_, h2_, h3_, h4_, h5_, h6_, h7_, h8_, h9_, h10_, h11_, hI⟩
      obtain rfl := h7_ d7_0
      obtain rfl := h4_ d4_1
      repeat (first | refine guard_true ?_ | refine guard_ne (by decide) ?_ | refine guard_undef ?_ | refine r_pickT ?_ | refine r_pickF ?_)
      exact ⟨h0_, h1_, h2_, h3_, h4_, h5_, h6_, h7_, fun _ => rfl, h9_, h10_, h11_, hI⟩
    · intro D hD_ d4_0 x33 x32 x31 x30 x29 x28 x27 x26 x25 x24 x23 x22 w_
      rintro ⟨h0_, h1_, h2_, h3_, h4_, h5_, h6_, h7_, h8_, h9_, h10_, h11_, hI⟩
      obtain rfl := h4_ d4_0
      repeat (first | refine guard_true ?_ | refine guard_ne (by decide) ?_ | refine guard_undef ?_ | refine r_pickT ?_ | refine r_pickF ?_)
      exact ⟨h0_, h1_, h2_, h3_, h4_, h5_, h6_, h7_, h8_, fun _ => rfl, h10_, h11_, hI⟩
    · intro D hD_ d8_0 d9_1 d4_2 d4_3 x33 x32 x31 x30 x29 x28 x27 x26 x25 x24 x23 x22 w_
      rintro ⟨h0_, h1_, h2_, h3_, h4_, h5_, h6_, h7_, h8_, h9_, h10_, h11_, hI⟩
      obtain rfl := h8_ d8_0
      obtain rfl := h9_ d9_1
      obtain rfl := h4_ d4_2
      repeat (first | refine guard_true ?_ | refine guard_ne (by decide) ?_ | refine guard_undef ?_ | refine r_pickT ?_ | refine r_pickF ?_)
      exact ⟨h0_, h1_, h2_, h3_, h4_, h5_, h6_, h7_, h8_, h9_, fun _ => rfl, h11_, hI⟩
    · intro D hD_ d4_0 d10_1 x33 x32 x31 x30 x29 x28 x27 x26 x25 x24 x23 x22 w_
      rintro ⟨h0_, h1_, h2_, h3_, h4_, h5_, h6_, h7_, h8_, h9_, h10_, h11_, hI⟩
      obtain rfl := h4_ d4_0
      obtain rfl := h10_ d10_1
      repeat (first | refine guard_true ?_ | refine guard_ne (by decide) ?_ | refine guard_undef ?_ | refine r_pickT ?_ | refine r_pickF ?_)
      exact ⟨h0_, h1_, h2_, h3_, h4_, h5_, h6_, h7_, h8_, h9_, h10_, fun _ => rfl, hI⟩
    intro D d11_ d10_ d9_ d8_ d7_ d6_ d5_ d4_ d3_ d2_ d1_ d0_ x33 x32 x31 x30 x29 x28 x27 x26 x25 x24 x23 x22 w_
    rintro ⟨h0_, h1_, h2_, h3_, h4_, h5_, h6_, h7_, h8_, h9_, h10_, h11_, hI⟩
    obtain rfl := h11_ d11_
    obtain rfl := h10_ d10_
    obtain rfl := h9_ d9_
    obtain rfl := h8_ d8_
    obtain rfl := h7_ d7_
    obtain rfl := h6_ d6_
    obtain rfl := h5_ d5_
    obtain rfl := h4_ d4_
    obtain rfl := h3_ d3_
    obtain rfl := h2_ d2_
    obtain rfl := h1_ d1_
    obtain rfl := h0_ d0_
    clear h0_ h1_ h2_ h3_ h4_ h5_ h6_ h7_ h8_ h9_ h10_ h11_
    refine condV (fun hb => by cases hb) (fun _ => ?_)
    rw [← hrel]
    refine put_tail j hI h hcs hj hn fun r S' w' hE hr hI => ⟨_, _, _, rfl, hI, hE, rfl, ?_⟩
    rw [List.drop_eq_nil_of_le (by omega)] at hr
    exact hr
end

end Go.Proofs.YtgdibnmabnimaaaGreat

/- slices.BinarySearchFunc in facts that stand in order. -/
namespace Go.Proofs.YtgdibnmabnimaaaGreat
open Go Go.RowKit
section
variable {P : Program} {w : World} {K : Value → World → Prop}
attribute [local irreducible] Run
theorem r_shr1 {T : TypeId} {cx cy : Bool} {a : Int} (hk : K (.int .u64 (a / 2)) w) : Run P (sBin .shr T cx cy (.int .u64 a) (.int .u64 1)) w K := by
  refine Run.of ?_ hk
  have h1 : Op.shift .shr .u64 a .u64 1 = pure (.int .u64 (a / 2)) := by
    have e : min (1 : Int).toNat IntKind.u64.bits = 1 := by decide
    simp only [Op.shift, e]
    rw [if_neg (by decide), Int.fdiv_eq_ediv_of_nonneg _ (by decide)]
    rfl
  simp [sBin, binOp, eqGuard, h1]
end
/- where a fact belongs -/
def posOk (l : List T) (t : T) (i : Nat) : Prop := i ≤ l.length ∧ (∀ j (h : j < l.length), j < i → cmpT l[j] t < 0) ∧ (∀ j (h : j < l.length), i ≤ j → ¬ cmpT l[j] t < 0)
theorem sorted_lt {l : List T} (h : Sorted l) : ∀ (a b : Nat) (ha : a < l.length) (hb : b < l.length), a < b → cmpT l[a] l[b] < 0 := by
  induction l with
  | nil => intro a b ha; simp at ha
  | cons x xs ih =>
    intro a b ha hb hab
    rw [Sorted] at h
    match a, b with
    | 0, b + 1 =>
      simp only [List.getElem_cons_zero, List.getElem_cons_succ]
      exact h.1 _ (List.getElem_mem _)
    | a + 1, b + 1 =>
      simp only [List.getElem_cons_succ]
      exact ih h.2 a b (by simpa using ha) (by simpa using hb) (by omega)
    | _, 0 => omega
theorem ins_pos {l : List T} {t : T} {i : Nat} (h : posOk l t i) : insT l t = l.take i ++ insT (l.drop i) t := by
  obtain ⟨h1, h2, _⟩ := h
  have : ∀ k, k ≤ i → l.take k ++ insT (l.drop k) t = insT l t := by
    intro k
    induction k with
    | zero => intro _; rfl
    | succ k ih =>
      intro hk
      have hkl : k < l.length := by omega
      rw [← ih (by omega), insT_split l t k hkl (h2 k hkl (by omega)), List.take_succ_eq_append_getElem hkl, List.append_assoc]
      rfl
  exact (this i (Nat.le_refl _)).symm
theorem ins_new {l : List T} {t : T} {i : Nat} (h : posOk l t i) (hn : ∀ hi : i < l.length, eqT l[i] t = false) : insT l t = l.take i ++ t :: l.drop i := by
  rw [ins_pos h]
  by_cases hi : i < l.length
  · rw [insT_stop l t i hi (h.2.2 i hi (Nat.le_refl _)), if_neg (by rw [hn hi]; decide)]
  · rw [List.drop_eq_nil_of_le (by omega), insT]
theorem ins_same {l : List T} {t : T} {i : Nat} (h : posOk l t i) (hi : i < l.length) (he : eqT l[i] t = true) : insT l t = l := by
  rw [ins_pos h, insT_stop l t i hi (h.2.2 i hi (Nat.le_refl _)), if_pos he, List.take_append_drop]
theorem cmp_zero {a b : T} (ha : okO a) (hb : okO b) : decide (cmpT a b = 0) = eqT a b := by
  rw [Bool.eq_iff_iff, decide_eq_true_eq, eqT_iff]
  exact ⟨cmpT_eq a b ha hb, fun h => by rw [h]; exact cmpT_self b⟩
def foundB (l : List T) (t : T) (i : Nat) : Bool := if h : i < l.length then eqT l[i] t else false
section
attribute [local irreducible] Run CondV GuardV LoadV
theorem BinarySearch_calls {l : List T} {t : T} {S : Store} {v : Value} {cs : List Value} (h : RdSl S 4 (RdT S) v l) (hcs : RdT S cs t) (hl : ∀ x ∈ l, okO x) (ht : okO t) (hs : Sorted l) (hn : l.length ≤ 100000000) :
    ∃ i, posOk l t i ∧ Pure Tryz.prog n_x_BinarySearchFunc_Term [v, .agg cs.toArray, fv n_i_compare []] S (.tuple #[.int .i64 i, .bool (foundB l t i)]) := by
  obtain ⟨i0, hi0⟩ : ∃ i, posOk l t i := by
    have : ∀ l : List T, Sorted l → (∀ x ∈ l, okO x) → ∃ i, posOk l t i := by
      intro l
      induction l with
      | nil => intro _ _; exact ⟨0, Nat.le_refl _, fun j h => by simp at h, fun j h => by simp at h⟩
      | cons x xs ih =>
        intro hs hl
        rw [Sorted] at hs
        by_cases hc : cmpT x t < 0
        · obtain ⟨i, h1, h2, h3⟩ := ih hs.2 fun y hy => hl y (List.mem_cons_of_mem _ hy)
          refine ⟨i + 1, by simpa using h1, fun j hj hji => ?_, fun j hj hji => ?_⟩
          · match j with
            | 0 => exact hc
            | j + 1 => simpa using h2 j (by simpa using hj) (by omega)
          · match j with
            | 0 => omega
            | j + 1 => simpa using h3 j (by simpa using hj) (by omega)
        · refine ⟨0, Nat.zero_le _, fun j _ hji => by omega, fun j hj _ => ?_⟩
          match j with
          | 0 => exact hc
          | j + 1 =>
            intro hlt
            simp only [List.getElem_cons_succ] at hlt
            exact hc (cmpT_lt (hs.1 _ (List.getElem_mem _)) hlt)
    exact this l hs hl
  have huniq : ∀ i, posOk l t i → i = i0 := by
    intro i hi
    rcases Nat.lt_trichotomy i i0 with h1 | h1 | h1
    · exact absurd (hi0.2.1 i (by have := hi0.1; omega) h1) (hi.2.2 i (by have := hi0.1; omega) (Nat.le_refl _))
    · exact h1
    · exact absurd (hi.2.1 i0 (by have := hi.1; omega) h1) (hi0.2.2 i0 (by have := hi.1; omega) (Nat.le_refl _))
  refine ⟨i0, hi0, fun w hI => ?_⟩
  have hlc := hcs.length
  have hun : Tryz.prog.underlying t_int = some (.int .i64) := by kernel_rfl
  refine calls_x_BinarySearchFunc_Term ?_
  unfold sh_x_BinarySearchFunc_Term
  refine r_box hI fun b4 w' hI => ?_
  have hI : Inv w [] [.blk b4 (.cells cs.toArray t_iTerm)] S w' := hI
  refine r_lenSl h sl_SiTerm ?_
  refine ⟨fun jv iv w' => ∃ i j : Nat, i ≤ j ∧ j ≤ l.length ∧ jv = .int .i64 j ∧ iv = .int .i64 i ∧ (∀ k (h : k < l.length), k < i → cmpT l[k] t < 0) ∧ (∀ k (h : k < l.length), j ≤ k → ¬ cmpT l[k] t < 0) ∧ Inv w [] [.blk b4 (.cells cs.toArray t_iTerm)] S w',
    fun jv iv _ => (intOf jv).toNat - (intOf iv).toNat, ⟨0, l.length, Nat.zero_le _, Nat.le_refl _, rfl, rfl, fun k _ hk => by omega, fun k hk hk2 => by omega, hI⟩, ?_⟩
  intro t10 _ t9 _ _ _ _ _ _ _ _ _ _ _ _ _ _ _ _ _ _ _ _ w'
  rintro ⟨i, j, hij, hjl, rfl, rfl, hlo, hhi, hI⟩
  refine r_lss ?_
  refine condP (fun hlt => ?_) (fun hlt => ?_)
  · obtain ⟨m, hm⟩ : ∃ m : Nat, (((i : Int) + (j : Int)) / 2) = (m : Int) := ⟨(i + j) / 2, by omega⟩
    have hm1 : i ≤ m ∧ m < j := by omega
    have hml : m < l.length := by omega
    refine r_add (by omega) ?_
    refine r_toInt (k := .u64) (k' := .i64) (by kernel_rfl) (by kernel_rfl) ?_
    rw [IntWalk.u64_in _ (by omega)]
    refine r_shr1 ?_
    rw [hm]
    refine r_toInt (k := .i64) (k' := .u64) (by kernel_rfl) (by kernel_rfl) ?_
    rw [IntWalk.i64_in _ (by omega)]
    obtain ⟨b, o, cap, c, E, fz, rfl, hS, hR⟩ := h.at_ hml
    have hox := hl _ (List.getElem_mem hml)
    refine ⟨fun D x31 x30 x29 x28 x27 x26 x25 x24 w_ => (D 0 = true → x24 = fv n_i_compare []) ∧ (D 1 = true → x25 = .slice (some ⟨b, o, none⟩) l.length cap) ∧ (D 2 = true → x26 = .int .i64 m) ∧ (D 3 = true → x27 = .pointer (some ⟨b, o + m * 4, none⟩)) ∧ (D 4 = true → x28 = .agg (cellsAt c (o + m * 4) 4).toArray) ∧ (D 5 = true → x29 = .agg cs.toArray) ∧ (D 6 = true → x30 = .int .i64 (cmpT l[m] t)) ∧ (D 7 = true → x31 = .bool (decide (cmpT l[m] t < 0))) ∧ Inv w [] [.blk b4 (.cells cs.toArray t_iTerm)] S w_, ⟨fun h => Bool.noConfusion h, fun h => Bool.noConfusion h, fun h => Bool.noConfusion h, fun h => Bool.noConfusion h, fun h => Bool.noConfusion h, fun h => Bool.noConfusion h, fun h => Bool.noConfusion h, fun h => Bool.noConfusion h, hI.draw⟩, ⟨?_, ?_, ?_, ?_, ?_, ?_, ?_, ?_, trivial⟩, ?_⟩
    · intro D hD_  x31 x30 x29 x28 x27 x26 x25 x24 w_
      rintro ⟨h0_, h1_, h2_, h3_, h4_, h5_, h6_, h7_, hI⟩
      exact ⟨fun _ => rfl, h1_, h2_, h3_, h4_, h5_, h6_, h7_, hI⟩
    · intro D hD_  x31 x30 x29 x28 x27 x26 x25 x24 w_
      rintro ⟨h0_, h1_, h2_, h3_, h4_, h5_, h6_, h7_, hI⟩
      exact ⟨h0_, fun _ => rfl, h2_, h3_, h4_, h5_, h6_, h7_, hI⟩
    · intro D hD_  x31 x30 x29 x28 x27 x26 x25 x24 w_
      rintro ⟨h0_, h1_, h2_, h3_, h4_, h5_, h6_, h7_, hI⟩
      exact ⟨h0_, h1_, fun _ => rfl, h3_, h4_, h5_, h6_, h7_, hI⟩
    · intro D hD_ d1_0 d2_1 x31 x30 x29 x28 x27 x26 x25 x24 w_
      rintro ⟨h0_, h1_, h2_, h3_, h4_, h5_, h6_, h7_, hI⟩
      obtain rfl := h1_ d1_0
      obtain rfl := h2_ d2_1
      refine r_indexAddr sl_SiTerm hml ?_
      exact ⟨h0_, h1_, h2_, fun _ => rfl, h4_, h5_, h6_, h7_, hI⟩
    · intro D hD_ d3_0 x31 x30 x29 x28 x27 x26 x25 x24 w_
      rintro ⟨h0_, h1_, h2_, h3_, h4_, h5_, h6_, h7_, hI⟩
      obtain rfl := h3_ d3_0
      refine r_loadA ag_iTerm hR.length (fun j v hj => by rw [hI.cellS hS]; exact cellsAt_get rfl j v hj) ?_
      exact ⟨h0_, h1_, h2_, h3_, fun _ => rfl, h5_, h6_, h7_, hI⟩
    · intro D hD_  x31 x30 x29 x28 x27 x26 x25 x24 w_
      rintro ⟨h0_, h1_, h2_, h3_, h4_, h5_, h6_, h7_, hI⟩
      refine r_loadW hI 0 ag_iTerm rfl (by simpa using hlc) ?_
      exact ⟨h0_, h1_, h2_, h3_, h4_, fun _ => rfl, h6_, h7_, hI⟩
    · intro D hD_ d0_0 d4_1 d5_2 x31 x30 x29 x28 x27 x26 x25 x24 w_
      rintro ⟨h0_, h1_, h2_, h3_, h4_, h5_, h6_, h7_, hI⟩
      obtain rfl := h0_ d0_0
      obtain rfl := h4_ d4_1
      obtain rfl := h5_ d5_2
      refine Run.callVPure (cap := []) fn_i_compare nm_i_compare hI (compare_calls _ _ S _ _ hR hcs hox ht) fun w_ hI => ?_
      exact ⟨h0_, h1_, h2_, h3_, h4_, h5_, fun _ => rfl, h7_, hI⟩
    · intro D hD_ d6_0 x31 x30 x29 x28 x27 x26 x25 x24 w_
      rintro ⟨h0_, h1_, h2_, h3_, h4_, h5_, h6_, h7_, hI⟩
      obtain rfl := h6_ d6_0
      refine r_lss ?_
      exact ⟨h0_, h1_, h2_, h3_, h4_, h5_, h6_, fun _ => rfl, hI⟩
    intro D d7_ d6_ d5_ d4_ d3_ d2_ d1_ d0_ x31 x30 x29 x28 x27 x26 x25 x24 w_
    rintro ⟨h0_, h1_, h2_, h3_, h4_, h5_, h6_, h7_, hI⟩
    obtain rfl := h7_ d7_
    obtain rfl := h6_ d6_
    obtain rfl := h5_ d5_
    obtain rfl := h4_ d4_
    obtain rfl := h3_ d3_
    obtain rfl := h2_ d2_
    obtain rfl := h1_ d1_
    obtain rfl := h0_ d0_
    clear h0_ h1_ h2_ h3_ h4_ h5_ h6_ h7_
    refine condP (fun hc => ?_) (fun hc => ?_)
    · refine r_add (by omega) ?_
      refine ⟨⟨m + 1, j, by omega, hjl, rfl, rfl, fun k hk hk2 => ?_, hhi, hI⟩, by simp [intOf]; omega⟩
      by_cases e : k = m
      · subst e; exact hc
      · exact cmpT_lt (sorted_lt hs k m hk hml (by omega)) hc
    · refine ⟨⟨i, m, hm1.1, by omega, rfl, rfl, hlo, fun k hk hk2 hc2 => ?_, hI⟩, by simp [intOf]; omega⟩
      by_cases e : k = m
      · subst e; exact hc hc2
      · exact hc (cmpT_lt (sorted_lt hs m k hml hk (by omega)) hc2)
  · have e : j = i := by omega
    subst e
    have e : j = i0 := huniq j ⟨hjl, hlo, hhi⟩
    subst e
    clear huniq hi0 hlo hhi
    by_cases hi : j < l.length
    · obtain ⟨b, o, cap, c, E, fz, rfl, hS, hR⟩ := h.at_ hi
      have hox := hl _ (List.getElem_mem hi)
      have hfb : foundB l t j = eqT l[j] t := dif_pos hi
      rw [hfb]
      refine ⟨fun D x7 x6 x48 x47 x46 x45 x44 x43 x42 x41 x40 x39 x38 x37 x36 x35 w_ => (D 0 = true → x35 = .int .i64 j) ∧ (D 1 = true → x36 = .int .i64 j) ∧ (D 2 = true → x37 = .int .i64 l.length) ∧ (D 3 = true → x38 = .bool true) ∧ (D 4 = true → x39 = .bool true) ∧ (D 5 = true → x40 = fv n_i_compare []) ∧ (D 6 = true → x41 = .slice (some ⟨b, o, none⟩) l.length cap) ∧ (D 7 = true → x42 = .int .i64 j) ∧ (D 8 = true → x43 = .pointer (some ⟨b, o + j * 4, none⟩)) ∧ (D 9 = true → x44 = .agg (cellsAt c (o + j * 4) 4).toArray) ∧ (D 10 = true → x45 = .agg cs.toArray) ∧ (D 11 = true → x46 = .int .i64 (cmpT l[j] t)) ∧ (D 12 = true → x47 = .bool (eqT l[j] t)) ∧ (D 13 = true → x48 = .bool (eqT l[j] t)) ∧ (D 14 = true → x6 = .int .i64 j) ∧ (D 15 = true → x7 = .bool (eqT l[j] t)) ∧ Inv w [] [.blk b4 (.cells cs.toArray t_iTerm)] S w_, ⟨fun h => Bool.noConfusion h, fun h => Bool.noConfusion h, fun h => Bool.noConfusion h, fun h => Bool.noConfusion h, fun h => Bool.noConfusion h, fun h => Bool.noConfusion h, fun h => Bool.noConfusion h, fun h => Bool.noConfusion h, fun h => Bool.noConfusion h, fun h => Bool.noConfusion h, fun h => Bool.noConfusion h, fun h => Bool.noConfusion h, fun h => Bool.noConfusion h, fun h => Bool.noConfusion h, fun h => Bool.noConfusion h, fun h => Bool.noConfusion h, hI.draw⟩, ⟨?_, ?_, ?_, ?_, ?_, ?_, ?_, ?_, ?_, ?_, ?_, ?_, ?_, ?_, ?_, ?_, trivial⟩, ?_⟩
      · intro D hD_  x7 x6 x48 x47 x46 x45 x44 x43 x42 x41 x40 x39 x38 x37 x36 x35 w_
        rintro ⟨h0_, h1_, h2_, h3_, h4_, h5_, h6_, h7_, h8_, h9_, h10_, h11_, h12_, h13_, h14_, h15_, hI⟩
        exact ⟨fun _ => rfl, h1_, h2_, h3_, h4_, h5_, h6_, h7_, h8_, h9_, h10_, h11_, h12_, h13_, h14_, h15_, hI⟩
      · intro D hD_  x7 x6 x48 x47 x46 x45 x44 x43 x42 x41 x40 x39 x38 x37 x36 x35 w_
        rintro ⟨h0_, h1_, h2_, h3_, h4_, h5_, h6_, h7_, h8_, h9_, h10_, h11_, h12_, h13_, h14_, h15_, hI⟩
        exact ⟨h0_, fun _ => rfl, h2_, h3_, h4_, h5_, h6_, h7_, h8_, h9_, h10_, h11_, h12_, h13_, h14_, h15_, hI⟩
      · intro D hD_  x7 x6 x48 x47 x46 x45 x44 x43 x42 x41 x40 x39 x38 x37 x36 x35 w_
        rintro ⟨h0_, h1_, h2_, h3_, h4_, h5_, h6_, h7_, h8_, h9_, h10_, h11_, h12_, h13_, h14_, h15_, hI⟩
        exact ⟨h0_, h1_, fun _ => rfl, h3_, h4_, h5_, h6_, h7_, h8_, h9_, h10_, h11_, h12_, h13_, h14_, h15_, hI⟩
      · intro D hD_ d1_0 d2_1 x7 x6 x48 x47 x46 x45 x44 x43 x42 x41 x40 x39 x38 x37 x36 x35 w_
        rintro ⟨h0_, h1_, h2_, h3_, h4_, h5_, h6_, h7_, h8_, h9_, h10_, h11_, h12_, h13_, h14_, h15_, hI⟩
        obtain rfl := h1_ d1_0
        obtain rfl := h2_ d2_1
        refine r_lss ?_; rw [decide_eq_true (show (j : Int) < (l.length : Int) by omega)]
        exact ⟨h0_, h1_, h2_, fun _ => rfl, h4_, h5_, h6_, h7_, h8_, h9_, h10_, h11_, h12_, h13_, h14_, h15_, hI⟩
      · intro D hD_ d3_0 x7 x6 x48 x47 x46 x45 x44 x43 x42 x41 x40 x39 x38 x37 x36 x35 w_
        rintro ⟨h0_, h1_, h2_, h3_, h4_, h5_, h6_, h7_, h8_, h9_, h10_, h11_, h12_, h13_, h14_, h15_, hI⟩
        obtain rfl := h3_ d3_0
        exact ⟨h0_, h1_, h2_, h3_, fun _ => rfl, h5_, h6_, h7_, h8_, h9_, h10_, h11_, h12_, h13_, h14_, h15_, hI⟩
      · intro D hD_ d4_0 x7 x6 x48 x47 x46 x45 x44 x43 x42 x41 x40 x39 x38 x37 x36 x35 w_
        rintro ⟨h0_, h1_, h2_, h3_, h4_, h5_, h6_, h7_, h8_, h9_, h10_, h11_, h12_, h13_, h14_, h15_, hI⟩
        obtain rfl := h4_ d4_0
        repeat (first | refine guard_true ?_ | refine guard_ne (by decide) ?_ | refine guard_undef ?_ | refine r_pickT ?_ | refine r_pickF ?_)
        exact ⟨h0_, h1_, h2_, h3_, h4_, fun _ => rfl, h6_, h7_, h8_, h9_, h10_, h11_, h12_, h13_, h14_, h15_, hI⟩
      · intro D hD_ d4_0 x7 x6 x48 x47 x46 x45 x44 x43 x42 x41 x40 x39 x38 x37 x36 x35 w_
        rintro ⟨h0_, h1_, h2_, h3_, h4_, h5_, h6_, h7_, h8_, h9_, h10_, h11_, h12_, h13_, h14_, h15_, hI⟩
        obtain rfl := h4_ d4_0
        repeat (first | refine guard_true ?_ | refine guard_ne (by decide) ?_ | refine guard_undef ?_ | refine r_pickT ?_ | refine r_pickF ?_)
        exact ⟨h0_, h1_, h2_, h3_, h4_, h5_, fun _ => rfl, h7_, h8_, h9_, h10_, h11_, h12_, h13_, h14_, h15_, hI⟩
      · intro D hD_ d4_0 x7 x6 x48 x47 x46 x45 x44 x43 x42 x41 x40 x39 x38 x37 x36 x35 w_
        rintro ⟨h0_, h1_, h2_, h3_, h4_, h5_, h6_, h7_, h8_, h9_, h10_, h11_, h12_, h13_, h14_, h15_, hI⟩
        obtain rfl := h4_ d4_0
        repeat (first | refine guard_true ?_ | refine guard_ne (by decide) ?_ | refine guard_undef ?_ | refine r_pickT ?_ | refine r_pickF ?_)
        exact ⟨h0_, h1_, h2_, h3_, h4_, h5_, h6_, fun _ => rfl, h8_, h9_, h10_, h11_, h12_, h13_, h14_, h15_, hI⟩
      · intro D hD_ d6_0 d7_1 d4_2 x7 x6 x48 x47 x46 x45 x44 x43 x42 x41 x40 x39 x38 x37 x36 x35 w_
        rintro ⟨h0_, h1_, h2_, h3_, h4_, h5_, h6_, h7_, h8_, h9_, h10_, h11_, h12_, h13_, h14_, h15_, hI⟩
        obtain rfl := h6_ d6_0
        obtain rfl := h7_ d7_1
        obtain rfl := h4_ d4_2
        repeat (first | refine guard_true ?_ | refine guard_ne (by decide) ?_ | refine guard_undef ?_ | refine r_pickT ?_ | refine r_pickF ?_)
        refine r_indexAddr sl_SiTerm hi ?_
        exact ⟨h0_, h1_, h2_, h3_, h4_, h5_, h6_, h7_, fun _ => rfl, h9_, h10_, h11_, h12_, h13_, h14_, h15_, hI⟩
      · intro D hD_ d8_0 d4_1 x7 x6 x48 x47 x46 x45 x44 x43 x42 x41 x40 x39 x38 x37 x36 x35 w_
        rintro ⟨h0_, h1_, h2_, h3_, h4_, h5_, h6_, h7_, h8_, h9_, h10_, h11_, h12_, h13_, h14_, h15_, hI⟩
        obtain rfl := h8_ d8_0
        obtain rfl := h4_ d4_1
        repeat (first | refine guard_true ?_ | refine guard_ne (by decide) ?_ | refine guard_undef ?_ | refine r_pickT ?_ | refine r_pickF ?_)
        refine r_loadA ag_iTerm hR.length (fun j v hj => by rw [hI.cellS hS]; exact cellsAt_get rfl j v hj) ?_
        exact ⟨h0_, h1_, h2_, h3_, h4_, h5_, h6_, h7_, h8_, fun _ => rfl, h10_, h11_, h12_, h13_, h14_, h15_, hI⟩
      · intro D hD_ d4_0 x7 x6 x48 x47 x46 x45 x44 x43 x42 x41 x40 x39 x38 x37 x36 x35 w_
        rintro ⟨h0_, h1_, h2_, h3_, h4_, h5_, h6_, h7_, h8_, h9_, h10_, h11_, h12_, h13_, h14_, h15_, hI⟩
        obtain rfl := h4_ d4_0
        repeat (first | refine guard_true ?_ | refine guard_ne (by decide) ?_ | refine guard_undef ?_ | refine r_pickT ?_ | refine r_pickF ?_)
        refine r_loadW hI 0 ag_iTerm rfl (by simpa using hlc) ?_
        exact ⟨h0_, h1_, h2_, h3_, h4_, h5_, h6_, h7_, h8_, h9_, fun _ => rfl, h11_, h12_, h13_, h14_, h15_, hI⟩
      · intro D hD_ d5_0 d9_1 d10_2 d4_3 d4_4 x7 x6 x48 x47 x46 x45 x44 x43 x42 x41 x40 x39 x38 x37 x36 x35 w_
        rintro ⟨h0_, h1_, h2_, h3_, h4_, h5_, h6_, h7_, h8_, h9_, h10_, h11_, h12_, h13_, h14_, h15_, hI⟩
        obtain rfl := h5_ d5_0
        obtain rfl := h9_ d9_1
        obtain rfl := h10_ d10_2
        obtain rfl := h4_ d4_3
        repeat (first | refine guard_true ?_ | refine guard_ne (by decide) ?_ | refine guard_undef ?_ | refine r_pickT ?_ | refine r_pickF ?_)
        refine Run.callVPure (cap := []) fn_i_compare nm_i_compare hI (compare_calls _ _ S _ _ hR hcs hox ht) fun w_ hI => ?_
        exact ⟨h0_, h1_, h2_, h3_, h4_, h5_, h6_, h7_, h8_, h9_, h10_, fun _ => rfl, h12_, h13_, h14_, h15_, hI⟩
      · intro D hD_ d11_0 d4_1 x7 x6 x48 x47 x46 x45 x44 x43 x42 x41 x40 x39 x38 x37 x36 x35 w_
        rintro ⟨h0_, h1_, h2_, h3_, h4_, h5_, h6_, h7_, h8_, h9_, h10_, h11_, h12_, h13_, h14_, h15_, hI⟩
        obtain rfl := h11_ d11_0
        obtain rfl := h4_ d4_1
        repeat (first | refine guard_true ?_ | refine guard_ne (by decide) ?_ | refine guard_undef ?_ | refine r_pickT ?_ | refine r_pickF ?_)
        refine r_eql ?_
        rw [cmp_zero hox ht]
        exact ⟨h0_, h1_, h2_, h3_, h4_, h5_, h6_, h7_, h8_, h9_, h10_, h11_, fun _ => rfl, h13_, h14_, h15_, hI⟩
      · intro D hD_ d4_0 d12_1 x7 x6 x48 x47 x46 x45 x44 x43 x42 x41 x40 x39 x38 x37 x36 x35 w_
        rintro ⟨h0_, h1_, h2_, h3_, h4_, h5_, h6_, h7_, h8_, h9_, h10_, h11_, h12_, h13_, h14_, h15_, hI⟩
        obtain rfl := h4_ d4_0
        obtain rfl := h12_ d12_1
        repeat (first | refine guard_true ?_ | refine guard_ne (by decide) ?_ | refine guard_undef ?_ | refine r_pickT ?_ | refine r_pickF ?_)
        exact ⟨h0_, h1_, h2_, h3_, h4_, h5_, h6_, h7_, h8_, h9_, h10_, h11_, h12_, fun _ => rfl, h14_, h15_, hI⟩
      · intro D hD_ d0_0 d11_1 d0_2 x7 x6 x48 x47 x46 x45 x44 x43 x42 x41 x40 x39 x38 x37 x36 x35 w_
        rintro ⟨h0_, h1_, h2_, h3_, h4_, h5_, h6_, h7_, h8_, h9_, h10_, h11_, h12_, h13_, h14_, h15_, hI⟩
        obtain rfl := h0_ d0_0
        exact ⟨h0_, h1_, h2_, h3_, h4_, h5_, h6_, h7_, h8_, h9_, h10_, h11_, h12_, h13_, fun _ => rfl, h15_, hI⟩
      · intro D hD_ d13_0 d14_1 d0_2 d1_3 d2_4 d3_5 d4_6 d5_7 d6_8 d7_9 d8_10 d9_11 d10_12 d11_13 d12_14 d13_15 d14_16 x7 x6 x48 x47 x46 x45 x44 x43 x42 x41 x40 x39 x38 x37 x36 x35 w_
        rintro ⟨h0_, h1_, h2_, h3_, h4_, h5_, h6_, h7_, h8_, h9_, h10_, h11_, h12_, h13_, h14_, h15_, hI⟩
        obtain rfl := h13_ d13_0
        exact ⟨h0_, h1_, h2_, h3_, h4_, h5_, h6_, h7_, h8_, h9_, h10_, h11_, h12_, h13_, h14_, fun _ => rfl, hI⟩
      intro D d15_ d14_ d13_ d12_ d11_ d10_ d9_ d8_ d7_ d6_ d5_ d4_ d3_ d2_ d1_ d0_ x7 x6 x48 x47 x46 x45 x44 x43 x42 x41 x40 x39 x38 x37 x36 x35 w_
      rintro ⟨h0_, h1_, h2_, h3_, h4_, h5_, h6_, h7_, h8_, h9_, h10_, h11_, h12_, h13_, h14_, h15_, hI⟩
      obtain rfl := h15_ d15_
      obtain rfl := h14_ d14_
      obtain rfl := h13_ d13_
      obtain rfl := h12_ d12_
      obtain rfl := h11_ d11_
      obtain rfl := h10_ d10_
      obtain rfl := h9_ d9_
      obtain rfl := h8_ d8_
      obtain rfl := h7_ d7_
      obtain rfl := h6_ d6_
      obtain rfl := h5_ d5_
      obtain rfl := h4_ d4_
      obtain rfl := h3_ d3_
      obtain rfl := h2_ d2_
      obtain rfl := h1_ d1_
      obtain rfl := h0_ d0_
      clear h0_ h1_ h2_ h3_ h4_ h5_ h6_ h7_ h8_ h9_ h10_ h11_ h12_ h13_ h14_ h15_
      exact done hI rfl
    · have hfb : foundB l t j = false := dif_neg hi
      rw [hfb]
      refine ⟨fun D x7 x6 x48 x47 x46 x45 x44 x43 x42 x41 x40 x39 x38 x37 x36 x35 w_ => (D 0 = true → x35 = .int .i64 j) ∧ (D 1 = true → x36 = .int .i64 j) ∧ (D 2 = true → x37 = .int .i64 l.length) ∧ (D 3 = true → x38 = .bool false) ∧ (D 4 = true → x39 = .bool false) ∧ (D 5 = true → x40 = undef) ∧ (D 6 = true → x41 = undef) ∧ (D 7 = true → x42 = undef) ∧ (D 8 = true → x43 = undef) ∧ (D 9 = true → x44 = undef) ∧ (D 10 = true → x45 = undef) ∧ (D 11 = true → x46 = undef) ∧ (D 12 = true → x47 = undef) ∧ (D 13 = true → x48 = .bool false) ∧ (D 14 = true → x6 = .int .i64 j) ∧ (D 15 = true → x7 = .bool false) ∧ Inv w [] [.blk b4 (.cells cs.toArray t_iTerm)] S w_, ⟨fun h => Bool.noConfusion h, fun h => Bool.noConfusion h, fun h => Bool.noConfusion h, fun h => Bool.noConfusion h, fun h => Bool.noConfusion h, fun h => Bool.noConfusion h, fun h => Bool.noConfusion h, fun h => Bool.noConfusion h, fun h => Bool.noConfusion h, fun h => Bool.noConfusion h, fun h => Bool.noConfusion h, fun h => Bool.noConfusion h, fun h => Bool.noConfusion h, fun h => Bool.noConfusion h, fun h => Bool.noConfusion h, fun h => Bool.noConfusion h, hI.draw⟩, ⟨?_, ?_, ?_, ?_, ?_, ?_, ?_, ?_, ?_, ?_, ?_, ?_, ?_, ?_, ?_, ?_, trivial⟩, ?_⟩
      · intro D hD_  x7 x6 x48 x47 x46 x45 x44 x43 x42 x41 x40 x39 x38 x37 x36 x35 w_
        rintro ⟨h0_, h1_, h2_, h3_, h4_, h5_, h6_, h7_, h8_, h9_, h10_, h11_, h12_, h13_, h14_, h15_, hI⟩
        exact ⟨fun _ => rfl, h1_, h2_, h3_, h4_, h5_, h6_, h7_, h8_, h9_, h10_, h11_, h12_, h13_, h14_, h15_, hI⟩
      · intro D hD_  x7 x6 x48 x47 x46 x45 x44 x43 x42 x41 x40 x39 x38 x37 x36 x35 w_
        rintro ⟨h0_, h1_, h2_, h3_, h4_, h5_, h6_, h7_, h8_, h9_, h10_, h11_, h12_, h13_, h14_, h15_, hI⟩
        exact ⟨h0_, fun _ => rfl, h2_, h3_, h4_, h5_, h6_, h7_, h8_, h9_, h10_, h11_, h12_, h13_, h14_, h15_, hI⟩
      · intro D hD_  x7 x6 x48 x47 x46 x45 x44 x43 x42 x41 x40 x39 x38 x37 x36 x35 w_
        rintro ⟨h0_, h1_, h2_, h3_, h4_, h5_, h6_, h7_, h8_, h9_, h10_, h11_, h12_, h13_, h14_, h15_, hI⟩
        exact ⟨h0_, h1_, fun _ => rfl, h3_, h4_, h5_, h6_, h7_, h8_, h9_, h10_, h11_, h12_, h13_, h14_, h15_, hI⟩
      · intro D hD_ d1_0 d2_1 x7 x6 x48 x47 x46 x45 x44 x43 x42 x41 x40 x39 x38 x37 x36 x35 w_
        rintro ⟨h0_, h1_, h2_, h3_, h4_, h5_, h6_, h7_, h8_, h9_, h10_, h11_, h12_, h13_, h14_, h15_, hI⟩
        obtain rfl := h1_ d1_0
        obtain rfl := h2_ d2_1
        refine r_lss ?_; rw [decide_eq_false (show ¬ (j : Int) < (l.length : Int) by omega)]
        exact ⟨h0_, h1_, h2_, fun _ => rfl, h4_, h5_, h6_, h7_, h8_, h9_, h10_, h11_, h12_, h13_, h14_, h15_, hI⟩
      · intro D hD_ d3_0 x7 x6 x48 x47 x46 x45 x44 x43 x42 x41 x40 x39 x38 x37 x36 x35 w_
        rintro ⟨h0_, h1_, h2_, h3_, h4_, h5_, h6_, h7_, h8_, h9_, h10_, h11_, h12_, h13_, h14_, h15_, hI⟩
        obtain rfl := h3_ d3_0
        exact ⟨h0_, h1_, h2_, h3_, fun _ => rfl, h5_, h6_, h7_, h8_, h9_, h10_, h11_, h12_, h13_, h14_, h15_, hI⟩
      · intro D hD_ d4_0 x7 x6 x48 x47 x46 x45 x44 x43 x42 x41 x40 x39 x38 x37 x36 x35 w_
        rintro ⟨h0_, h1_, h2_, h3_, h4_, h5_, h6_, h7_, h8_, h9_, h10_, h11_, h12_, h13_, h14_, h15_, hI⟩
        obtain rfl := h4_ d4_0
        repeat (first | refine guard_true ?_ | refine guard_ne (by decide) ?_ | refine guard_undef ?_ | refine r_pickT ?_ | refine r_pickF ?_)
        exact ⟨h0_, h1_, h2_, h3_, h4_, fun _ => rfl, h6_, h7_, h8_, h9_, h10_, h11_, h12_, h13_, h14_, h15_, hI⟩
      · intro D hD_ d4_0 x7 x6 x48 x47 x46 x45 x44 x43 x42 x41 x40 x39 x38 x37 x36 x35 w_
        rintro ⟨h0_, h1_, h2_, h3_, h4_, h5_, h6_, h7_, h8_, h9_, h10_, h11_, h12_, h13_, h14_, h15_, hI⟩
        obtain rfl := h4_ d4_0
        repeat (first | refine guard_true ?_ | refine guard_ne (by decide) ?_ | refine guard_undef ?_ | refine r_pickT ?_ | refine r_pickF ?_)
        exact ⟨h0_, h1_, h2_, h3_, h4_, h5_, fun _ => rfl, h7_, h8_, h9_, h10_, h11_, h12_, h13_, h14_, h15_, hI⟩
      · intro D hD_ d4_0 x7 x6 x48 x47 x46 x45 x44 x43 x42 x41 x40 x39 x38 x37 x36 x35 w_
        rintro ⟨h0_, h1_, h2_, h3_, h4_, h5_, h6_, h7_, h8_, h9_, h10_, h11_, h12_, h13_, h14_, h15_, hI⟩
        obtain rfl := h4_ d4_0
        repeat (first | refine guard_true ?_ | refine guard_ne (by decide) ?_ | refine guard_undef ?_ | refine r_pickT ?_ | refine r_pickF ?_)
        exact ⟨h0_, h1_, h2_, h3_, h4_, h5_, h6_, fun _ => rfl, h8_, h9_, h10_, h11_, h12_, h13_, h14_, h15_, hI⟩
      · intro D hD_ d6_0 d7_1 d4_2 x7 x6 x48 x47 x46 x45 x44 x43 x42 x41 x40 x39 x38 x37 x36 x35 w_
        rintro ⟨h0_, h1_, h2_, h3_, h4_, h5_, h6_, h7_, h8_, h9_, h10_, h11_, h12_, h13_, h14_, h15_, hI⟩
        obtain rfl := h6_ d6_0
        obtain rfl := h7_ d7_1
        obtain rfl := h4_ d4_2
        repeat (first | refine guard_true ?_ | refine guard_ne (by decide) ?_ | refine guard_undef ?_ | refine r_pickT ?_ | refine r_pickF ?_)
        exact ⟨h0_, h1_, h2_, h3_, h4_, h5_, h6_, h7_, fun _ => rfl, h9_, h10_, h11_, h12_, h13_, h14_, h15_, hI⟩
      · intro D hD_ d8_0 d4_1 x7 x6 x48 x47 x46 x45 x44 x43 x42 x41 x40 x39 x38 x37 x36 x35 w_
        rintro ⟨h0_, h1_, h2_, h3_, h4_, h5_, h6_, h7_, h8_, h9_, h10_, h11_, h12_, h13_, h14_, h15_, hI⟩
        obtain rfl := h8_ d8_0
        obtain rfl := h4_ d4_1
        repeat (first | refine guard_true ?_ | refine guard_ne (by decide) ?_ | refine guard_undef ?_ | refine r_pickT ?_ | refine r_pickF ?_)
        exact ⟨h0_, h1_, h2_, h3_, h4_, h5_, h6_, h7_, h8_, fun _ => rfl, h10_, h11_, h12_, h13_, h14_, h15_, hI⟩
      · intro D hD_ d4_0 x7 x6 x48 x47 x46 x45 x44 x43 x42 x41 x40 x39 x38 x37 x36 x35 w_
        rintro ⟨h0_, h1_, h2_, h3_, h4_, h5_, h6_, h7_, h8_, h9_, h10_, h11_, h12_, h13_, h14_, h15_, hI⟩
        obtain rfl := h4_ d4_0
        repeat (first | refine guard_true ?_ | refine guard_ne (by decide) ?_ | refine guard_undef ?_ | refine r_pickT ?_ | refine r_pickF ?_)
        exact ⟨h0_, h1_, h2_, h3_, h4_, h5_, h6_, h7_, h8_, h9_, fun _ => rfl, h11_, h12_, h13_, h14_, h15_, hI⟩
      · intro D hD_ d5_0 d9_1 d10_2 d4_3 d4_4 x7 x6 x48 x47 x46 x45 x44 x43 x42 x41 x40 x39 x38 x37 x36 x35 w_
        rintro ⟨h0_, h1_, h2_, h3_, h4_, h5_, h6_, h7_, h8_, h9_, h10_, h11_, h12_, h13_, h14_, h15_, hI⟩
        obtain rfl := h5_ d5_0
        obtain rfl := h9_ d9_1
        obtain rfl := h10_ d10_2
        obtain rfl := h4_ d4_3
        repeat (first | refine guard_true ?_ | refine guard_ne (by decide) ?_ | refine guard_undef ?_ | refine r_pickT ?_ | refine r_pickF ?_)
        exact ⟨h0_, h1_, h2_, h3_, h4_, h5_, h6_, h7_, h8_, h9_, h10_, fun _ => rfl, h12_, h13_, h14_, h15_, hI⟩
      · intro D hD_ d11_0 d4_1 x7 x6 x48 x47 x46 x45 x44 x43 x42 x41 x40 x39 x38 x37 x36 x35 w_
        rintro ⟨h0_, h1_, h2_, h3_, h4_, h5_, h6_, h7_, h8_, h9_, h10_, h11_, h12_, h13_, h14_, h15_, hI⟩
        obtain rfl := h11_ d11_0
        obtain rfl := h4_ d4_1
        repeat (first | refine guard_true ?_ | refine guard_ne (by decide) ?_ | refine guard_undef ?_ | refine r_pickT ?_ | refine r_pickF ?_)
        exact ⟨h0_, h1_, h2_, h3_, h4_, h5_, h6_, h7_, h8_, h9_, h10_, h11_, fun _ => rfl, h13_, h14_, h15_, hI⟩
      · intro D hD_ d4_0 d12_1 x7 x6 x48 x47 x46 x45 x44 x43 x42 x41 x40 x39 x38 x37 x36 x35 w_
        rintro ⟨h0_, h1_, h2_, h3_, h4_, h5_, h6_, h7_, h8_, h9_, h10_, h11_, h12_, h13_, h14_, h15_, hI⟩
        obtain rfl := h4_ d4_0
        obtain rfl := h12_ d12_1
        repeat (first | refine guard_true ?_ | refine guard_ne (by decide) ?_ | refine guard_undef ?_ | refine r_pickT ?_ | refine r_pickF ?_)
        exact ⟨h0_, h1_, h2_, h3_, h4_, h5_, h6_, h7_, h8_, h9_, h10_, h11_, h12_, fun _ => rfl, h14_, h15_, hI⟩
      · intro D hD_ d0_0 d11_1 d0_2 x7 x6 x48 x47 x46 x45 x44 x43 x42 x41 x40 x39 x38 x37 x36 x35 w_
        rintro ⟨h0_, h1_, h2_, h3_, h4_, h5_, h6_, h7_, h8_, h9_, h10_, h11_, h12_, h13_, h14_, h15_, hI⟩
        obtain rfl := h0_ d0_0
        exact ⟨h0_, h1_, h2_, h3_, h4_, h5_, h6_, h7_, h8_, h9_, h10_, h11_, h12_, h13_, fun _ => rfl, h15_, hI⟩
      · intro D hD_ d13_0 d14_1 d0_2 d1_3 d2_4 d3_5 d4_6 d5_7 d6_8 d7_9 d8_10 d9_11 d10_12 d11_13 d12_14 d13_15 d14_16 x7 x6 x48 x47 x46 x45 x44 x43 x42 x41 x40 x39 x38 x37 x36 x35 w_
        rintro ⟨h0_, h1_, h2_, h3_, h4_, h5_, h6_, h7_, h8_, h9_, h10_, h11_, h12_, h13_, h14_, h15_, hI⟩
        obtain rfl := h13_ d13_0
        exact ⟨h0_, h1_, h2_, h3_, h4_, h5_, h6_, h7_, h8_, h9_, h10_, h11_, h12_, h13_, h14_, fun _ => rfl, hI⟩
      intro D d15_ d14_ d13_ d12_ d11_ d10_ d9_ d8_ d7_ d6_ d5_ d4_ d3_ d2_ d1_ d0_ x7 x6 x48 x47 x46 x45 x44 x43 x42 x41 x40 x39 x38 x37 x36 x35 w_
      rintro ⟨h0_, h1_, h2_, h3_, h4_, h5_, h6_, h7_, h8_, h9_, h10_, h11_, h12_, h13_, h14_, h15_, hI⟩
      obtain rfl := h15_ d15_
      obtain rfl := h14_ d14_
      obtain rfl := h13_ d13_
      obtain rfl := h12_ d12_
      obtain rfl := h11_ d11_
      obtain rfl := h10_ d10_
      obtain rfl := h9_ d9_
      obtain rfl := h8_ d8_
      obtain rfl := h7_ d7_
      obtain rfl := h6_ d6_
      obtain rfl := h5_ d5_
      obtain rfl := h4_ d4_
      obtain rfl := h3_ d3_
      obtain rfl := h2_ d2_
      obtain rfl := h1_ d1_
      obtain rfl := h0_ d0_
      clear h0_ h1_ h2_ h3_ h4_ h5_ h6_ h7_ h8_ h9_ h10_ h11_ h12_ h13_ h14_ h15_
      exact done hI rfl
end

end Go.Proofs.YtgdibnmabnimaaaGreat
