/- spec.ModelClosed. -/
import Derived.Test.YtgdibnmabnimaaaGreatZle6
import Derived.Test.YtgdibnmabnimaaaGreatZle3
import Derived.Test.YtgdibnmabnimaaaGreatZle5
import Derived.Test.YtgdibnmabnimaaaGreatZle2
namespace Go.Proofs.YtgdibnmabnimaaaGreat
open Go Go.RowKit
theorem shape_own {t : T} {d : Int} (h : shapeT t d = true) : ownB t = true ∧ shapeL t.kids (d - 1) = true := by
  cases t
  rw [shapeT] at h
  split at h
  · cases h
  · rw [Bool.and_eq_true] at h
    exact h
theorem shapeL_mem : ∀ {ts : List T} {d : Int}, shapeL ts d = true → ∀ t ∈ ts, shapeT t d = true
  | [], _, _, t, ht => by cases ht
  | x :: ts, d, h, t, ht => by
    rw [shapeL, Bool.and_eq_true] at h
    rcases List.mem_cons.1 ht with rfl | ht
    · exact h.1
    · exact shapeL_mem h.2 t ht
theorem flat_Gl {t : T} (hv : validB t = true) (hf : flatT t = true) : Gl t := by
  rw [flatT, Bool.and_eq_true, List.all_eq_true] at hf
  obtain ⟨hk, hp⟩ := hf
  rw [plainB, Bool.and_eq_true, decide_eq_true_eq] at hp
  obtain ⟨h1, h2⟩ := shape_own (valid_shape hv)
  refine ⟨hp.1, h1, fun y hy => ⟨(shape_own (shapeL_mem h2 y hy)).1, ?_⟩⟩
  have := hk y hy
  rw [noKids, decide_eq_true_eq] at this
  exact List.eq_nil_of_length_eq_zero this
theorem addI_src {l : List Int} {n m : Int} (h : m ∈ addI l n) : m ∈ l ∨ m = n := by
  unfold addI at h
  split at h
  · exact .inl h
  · simpa using h
theorem varsT_def (t : T) (l : List Int) : varsT t l = varsL t.kids (if t.kind = 1 then addI l t.n else l) := by cases t; rw [varsT]; rfl
theorem varsL_leaf : ∀ (ks : List T) (l : List Int), (∀ y ∈ ks, y.kids = []) → ∀ n, n ∈ varsL ks l ↔ n ∈ l ∨ ∃ z ∈ ks, z.kind = 1 ∧ z.n = n
  | [], l, _, n => by simp [varsL]
  | k :: ks, l, hk, n => by
    rw [varsL, varsL_leaf ks _ (fun y hy => hk y (List.mem_cons_of_mem _ hy)), varsT_def, hk k (List.mem_cons_self ..), varsL]
    have hsrc : (n ∈ if k.kind = 1 then addI l k.n else l) ↔ n ∈ l ∨ (k.kind = 1 ∧ k.n = n) := by
      split
      · rename_i h
        constructor
        · intro hm
          rcases addI_src hm with h1 | h1
          · exact .inl h1
          · exact .inr ⟨h, h1.symm⟩
        · rintro (h1 | ⟨_, rfl⟩)
          · exact (show ∀ m ∈ l, m ∈ addI l k.n from fun m hm => by unfold addI; split; exact hm; simp [hm]) n h1
          · unfold addI
            split
            · rename_i h2
              simpa [hasI] using h2
            · simp
      · rename_i h
        exact ⟨.inl, fun h1 => h1.elim id fun h2 => absurd h2.1 h⟩
    rw [hsrc]
    constructor
    · rintro ((h | ⟨h1, h2⟩) | ⟨z, hz, h⟩)
      · exact .inl h
      · exact .inr ⟨k, List.mem_cons_self .., h1, h2⟩
      · exact .inr ⟨z, List.mem_cons_of_mem _ hz, h⟩
    · rintro (h | ⟨z, hz, h⟩)
      · exact .inl (.inl h)
      · rcases List.mem_cons.1 hz with rfl | hz
        · exact .inl (.inr h)
        · exact .inr ⟨z, hz, h⟩
theorem varsT_Gl {g : T} (h : Gl g) (l : List Int) (n : Int) : n ∈ varsT g l ↔ n ∈ l ∨ ∃ z ∈ g.kids, z.kind = 1 ∧ z.n = n := by
  rw [varsT_def, if_neg (by have := h.1; omega)]
  exact varsL_leaf g.kids l (fun y hy => (h.2.2 y hy).2) n
theorem varsL_Gl : ∀ (gs : List T) (l : List Int), (∀ g ∈ gs, Gl g) → ∀ n, n ∈ varsL gs l → n ∈ l ∨ ∃ g ∈ gs, ∃ z ∈ g.kids, z.kind = 1 ∧ z.n = n
  | [], l, _, n, h => .inl h
  | g :: gs, l, hg, n, h => by
    rw [varsL] at h
    rcases varsL_Gl gs _ (fun x hx => hg x (List.mem_cons_of_mem _ hx)) n h with h | ⟨x, hx, h⟩
    · rcases (varsT_Gl (hg g (List.mem_cons_self ..)) l n).1 h with h | h
      · exact .inl h
      · exact .inr ⟨g, List.mem_cons_self .., h⟩
    · exact .inr ⟨x, List.mem_cons_of_mem _ hx, h⟩
theorem flat_parts {c : C} (hv : clauseB c = true) (hf : flatC c = true) : Gl c.head ∧ (∀ g ∈ c.body, Gl g) ∧ covers c.head c.body st0 := by
  rw [clauseB] at hv
  simp only [Bool.and_eq_true, List.all_eq_true] at hv
  rw [flatC] at hf
  simp only [Bool.and_eq_true, List.all_eq_true] at hf
  have hb : ∀ g ∈ c.body, Gl g := fun g hg => by
    have h1 := hv.2.1 g hg
    rw [goalB, Bool.and_eq_true] at h1
    exact flat_Gl h1.1 (hf.2.2.1 g hg)
  have hh := flat_Gl hv.2.2.1 hf.1
  refine ⟨hh, hb, fun y hy hk => ?_⟩
  right
  have h1 := hf.2.2.2 y.n ((varsT_Gl hh [] y.n).2 (.inr ⟨y, hy, hk, rfl⟩))
  have h2 : y.n ∈ varsL c.body [] := by simpa [hasI] using h1
  rcases varsL_Gl c.body [] hb y.n h2 with h | h
  · cases h
  · exact h
theorem flatP_parts {p : List C} (h : flatP p = true) : ∀ c ∈ p, Gl c.head ∧ (∀ g ∈ c.body, Gl g) ∧ covers c.head c.body st0 := by
  intro c hc
  rw [flatP, Bool.and_eq_true, List.all_eq_true] at h
  have h1 := h.1
  rw [progB] at h1
  simp only [Bool.and_eq_true, List.all_eq_true] at h1
  exact flat_parts (h1.2 c hc) (h.2 c hc)
/- facts -/
def factB (t : T) : Bool := validB t && (flatT t && decide ((varsT t []).length = 0))
theorem factB_Fct {t : T} (h : factB t = true) : Fct t := by
  rw [factB] at h
  simp only [Bool.and_eq_true, decide_eq_true_eq] at h
  have hg := flat_Gl h.1 h.2.1
  refine ⟨hg.1, hg.2.1, fun y hy => ⟨(hg.2.2 y hy).1, (hg.2.2 y hy).2, fun hk => ?_⟩⟩
  have h1 := (varsT_Gl hg [] y.n).2 (.inr ⟨y, hy, hk, rfl⟩)
  rw [List.eq_nil_of_length_eq_zero h.2.2] at h1
  cases h1
def factsB (l : List T) : Bool := l.all factB && decide (l.length ≤ 60)
theorem factsB_Fct {l : List T} (h : factsB l = true) : (∀ f ∈ l, Fct f) ∧ l.length ≤ 60 := by
  rw [factsB, Bool.and_eq_true, List.all_eq_true, decide_eq_true_eq] at h
  exact ⟨fun f hf => factB_Fct (h.1 f hf), h.2⟩
def closedC (facts : List T) (c : C) : Bool := (follL c.head facts c.body st0).all (hasT facts)
def modelB (p : List C) (facts : List T) : Bool := flatP p && (factsB facts && p.all (closedC facts))
theorem body_closed {c : C} {facts : List T} (hg : Gl c.head ∧ (∀ g ∈ c.body, Gl g) ∧ covers c.head c.body st0) (hf : factsB facts = true) : (bodyS c.head facts c.body [] st0).all (hasT facts) = closedC facts c := by
  obtain ⟨h1, h2⟩ := factsB_Fct hf
  rw [body_foll, closedC]
  exact closed_eq h2 fun x hx => (foll_Fct hg.1 h1 c.body st0 hg.2.1 st0_F hg.2.2 x hx).ok.2.2.1
section
attribute [local irreducible] Run CondV GuardV LoadV
end

end Go.Proofs.YtgdibnmabnimaaaGreat

/- impl.follows, with a function that is told the facts. -/
namespace Go.Proofs.YtgdibnmabnimaaaGreat
open Go Go.RowKit
theorem mapR_full {g : T} {st : Known} (h : Gl g) : mapR (getK st) g = fullS g st := by
  obtain ⟨k, n, s, ks⟩ := g
  obtain ⟨h1, h2, h3⟩ := h
  have hk : k = 3 := h1
  have hn : n = 0 := by
    rcases ownB_okO h2 with h | h
    · have := h.1
      simp only [T.kind] at this
      omega
    · exact h.2
  rw [mapR, if_neg (by omega), fullS, mapRL_map, hn]
  congr 1
  refine List.map_congr_left fun y hy => ?_
  obtain ⟨_, hyk⟩ := h3 y hy
  obtain ⟨k', n', s', ks'⟩ := y
  simp only [T.kids] at hyk
  subst hyk
  rw [mapR, fullK]
  split
  · rename_i hk'
    rw [if_pos (show (T.mk k' n' s' []).kind = 1 from hk')]; rfl
  · rename_i hk'
    rw [if_neg (show ¬ (T.mk k' n' s' []).kind = 1 from hk'), mapRL]
theorem KnownM.mono {S S' : Store} {es : Array MapEntry} {st : Known} (h : KnownM S es st) (hs : Sle S S') : KnownM S' es st :=
  ⟨fun e he => by
    obtain ⟨n, t, cs, h1, h2, h3, h4⟩ := h.1 e he
    exact ⟨n, t, cs, h1, h2, h3.mono hs, h4⟩, h.2⟩
/- a function that is told facts and keeps a state; 'can s n': n more facts can be told -/
structure Tell (f : FuncId) (fn : Func) (cap : List Value) {σ : Type} (It : σ → Store → List Item → Prop) (can : σ → Nat → Prop) (step : σ → T → σ) (S0 : Store) : Prop where
  hf : Tryz.prog.funcs[f]? = some fn
  hn : (fn.name == "runtime.NumGoroutine" || fn.body.isNone) = false
  up : ∀ (s : σ) (S S' : Store) (I : List Item), Sle S S' → It s S I → It s S' I
  down : ∀ (s : σ) (x : T) (n : Nat), Fct x → can s (n + 1) → can (step s x) n
  call : ∀ (S : Store) (s : σ) (x : T) (cs : List Value) (I : List Item) (n : Nat), Sle S0 S → Fct x → RdT S cs x → It s S I → can s (n + 1) → Tri Tryz.prog f (.agg cs.toArray :: cap) I S fun r I' S' => r = .tuple #[] ∧ It (step s x) S' I'
theorem Tell.mono {f : FuncId} {fn : Func} {cap : List Value} {σ : Type} {It : σ → Store → List Item → Prop} {can : σ → Nat → Prop} {step : σ → T → σ} {S0 S1 : Store} (h : Tell f fn cap It can step S0) (hs : Sle S0 S1) : Tell f fn cap It can step S1 :=
  ⟨h.hf, h.hn, h.up, h.down, fun S s x cs I n h1 => h.call S s x cs I n (hs.trans h1)⟩
section
attribute [local irreducible] Run CondV GuardV LoadV
theorem follows_1_fun {S : Store} {gb mb ck : Nat} {E : TypeId} {es : Array MapEntry} {st : Known} (hg : S gb = some (.cells #[.map (some mb)] E)) (hm : S mb = some (.map es ck)) (hk : KnownM S es st) : Fun n_i_follows_1 [.pointer (some ⟨gb, 0, none⟩)] S (getK st) := by
  intro S' hs n hn0 hn25
  obtain ⟨m, rfl⟩ : ∃ m : Nat, n = m := ⟨n.toNat, by omega⟩
  have hk' := hk.mono hs
  have hfind : ∃ v cs, v = .agg (List.toArray cs) ∧ RdT S' cs (getK st m) ∧ ((∃ j, Instr.findNow (.int .i64) (.int .i64 m) es.toList 0 = some (some (j, v))) ∨ (Instr.findNow (.int .i64) (.int .i64 m) es.toList 0 = some none ∧ v = .agg #[.int .i64 0, .int .i64 0, .string ⟨#[]⟩, .slice none 0 0])) := by
    rcases hk'.find m with ⟨j, v, t, cs, hf, hv, hR, hs⟩ | ⟨hno, hf⟩
    · refine ⟨v, cs, hv, ?_, .inl ⟨j, hf⟩⟩
      rw [getK, Int.toNat_natCast, hs]
      exact hR
    · refine ⟨_, noCells, rfl, ?_, .inr ⟨hf, rfl⟩⟩
      have e : getK st m = zeroT := by
        rw [getK, Int.toNat_natCast]
        split
        · rename_i t h
          exact absurd h (hno t)
        · rfl
      rw [e]
      exact RdT.zero S'
  obtain ⟨v, cs, rfl, hR, hf⟩ := hfind
  refine ⟨cs, hR, fun w hI => ?_⟩
  refine calls_i_follows_1 ?_
  unfold sh_i_follows_1
  refine r_alloc hI zo_iTerm fun b3 w' hI => ?_
  refine r_load (by decide +kernel) (by rw [hI.cellS (hs _ _ hg)]; rfl) ?_
  refine r_lookupS hI (kt := t_int) (et := t_iTerm) (by kernel_rfl) (by kernel_rfl) (z := .agg #[.int .i64 0, .int .i64 0, .string ⟨#[]⟩, .slice none 0 0]) (by kernel_rfl) (hs _ _ hm) hf ?_
  refine r_storeW hI 0 rfl ag_iTerm (by simpa using hR.length) rfl (by simpa using hR.one) fun w' hI => ?_
  refine loadV_W hI 0 ag_iTerm rfl (by simpa using hR.length) ?_
  exact done hI rfl
theorem follows_calls {f : FuncId} {fn : Func} {cap : List Value} {σ : Type} {It : σ → Store → List Item → Prop} {can : σ → Nat → Prop} {step : σ → T → σ} (c0 : C) (facts : List T) (hh : Gl c0.head) (hfs : ∀ f ∈ facts, Fct f) (hbs : ∀ g ∈ c0.body, Gl g) :
    ∀ (gs : List T) (i : Nat), i + gs.length = c0.body.length → c0.body.drop i = gs →
    ∀ (S : Store) (cs : List Value) (fsv : Value) (mb ck : Nat) (es : Array MapEntry) (s : σ) (I : List Item) (st : Known) (m : Nat), Tell f fn cap It can step S → RdC S cs c0 → RdSl S 4 (RdT S) fsv facts → S mb = some (.map es ck) → KnownM S es st → StF st → covers c0.head gs st → It s S I → can s ((follL c0.head facts gs st).length + m) →
    Tri Tryz.prog n_i_follows [.agg cs.toArray, .int .i64 i, fsv, .map (some mb), fv f cap] I S fun r I' S' => r = .tuple #[] ∧ It ((follL c0.head facts gs st).foldl step s) S' I' ∧ can ((follL c0.head facts gs st).foldl step s) m := by
  intro gs
  induction gs with
  | nil =>
    intro i hi hdr S cs fsv mb ck es s I st m ht h hf hm hk hst hc hIt hcan w hI
    have hcan : can s (m + 1) := by rw [follL, List.length_singleton, Nat.add_comm] at hcan; exact hcan
    obtain ⟨hd, ks, rfl, h1, h2⟩ := h
    have h1' := h1
    obtain ⟨kv, rfl, g1, g2, g3, g4⟩ := RdT.iff.1 h1
    simp only [List.length_nil, Nat.add_zero] at hi
    refine calls_i_follows ?_
    unfold sh_i_follows
    refine r_box hI fun b5 w' hI => ?_
    obtain ⟨S1, hI, hE1, hb5⟩ := hI.pub1
    refine r_box hI fun b8 w' hI => ?_
    obtain ⟨S2, hI, hE2, hb8⟩ := hI.pub1
    have hE := hE1.trans hE2
    have hb5 := hE2.1 _ _ hb5
    refine r_field fo_iClause_1 ?_
    refine r_load sc_SiTerm (by rw [hI.cellS hb5]; rfl) ?_
    refine r_lenSl (h2.monoT hE.1) sl_SiTerm ?_
    refine r_eql ?_
    refine condP (fun _ => ?_) (fun hb => absurd (by omega) hb)
    refine r_field fo_iClause_0 ?_
    refine r_loadA (cs := [.int .i64 c0.head.kind, .int .i64 c0.head.n, .string c0.head.name, kv]) ag_iTerm rfl (fun j v hj => by rw [hI.cellS hb5]; exact sub4 j v hj) ?_
    refine r_makeFunc ?_
    have hok := hh.ok
    refine Run.callE (A := I) (I := []) fn_i_mapVars nm_i_mapVars (by simpa using hI) (mapR_calls [.pointer (some ⟨b8, 0, none⟩)] (getK st) fn_i_follows_1 nm_i_follows_1 _ S2 _ (h1'.mono hE.1) hok.1 (by omega) (follows_1_fun hb8 (hE.1 _ _ hm) (hk.mono hE.1))) fun v' I' S3 w' => ?_
    rintro ⟨rfl, cs1, rfl, hR⟩ hE3 hI
    rw [mapR_full hh] at hR
    have hct := full_Fct hh hst (fun y hy hk => by
      rcases hc y hy hk with h | ⟨g, hg, _⟩
      · exact h
      · cases hg)
    have hI : Inv w (feet I) ([] ++ I) S3 w' := by simpa using hI
    refine Run.callVE (A := []) ht.hf ht.hn hI (ht.call S3 s _ cs1 I m (hE.1.trans hE3.1) hct hR (ht.up _ _ _ _ (hE.1.trans hE3.1) hIt) hcan) fun v' I' S4 w' => ?_
    rintro ⟨rfl, hIt'⟩ hE4 hI
    exact ⟨_, _, _, rfl, hI, (hE.trans hE3).trans hE4, rfl, hIt', ht.down _ _ _ hct hcan⟩
  | cons g gs ih =>
    intro i hi hdr S cs fsv mb ck es s I st m ht h hf hm hk hst hc hIt hcan w hI
    have h0 := h
    obtain ⟨hd, ks, rfl, h1, h2⟩ := h
    obtain ⟨kv, rfl, g1, g2, g3, g4⟩ := RdT.iff.1 h1
    simp only [List.length_cons] at hi
    have hib : i < c0.body.length := by omega
    have hlen2 := h2.le
    have hlenf := hf.le
    simp only [maxLen] at hlen2 hlenf
    have hge : c0.body[i] = g ∧ c0.body.drop (i + 1) = gs := by
      rw [List.drop_eq_getElem_cons hib, List.cons.injEq] at hdr
      exact hdr
    have hg : Gl g := by rw [← hge.1]; exact hbs _ (List.getElem_mem hib)
    have hgs : ∀ x ∈ gs, Gl x := fun x hx => hbs x (by rw [← hge.2] at hx; exact List.mem_of_mem_drop hx)
    obtain ⟨b1, o1, cap1, c1, E1, fz1, rfl, hS1, hR1⟩ := h2.at_ hib
    rw [hge.1] at hR1
    obtain ⟨X, hX⟩ : ∃ X, X = feet I := ⟨_, rfl⟩
    rw [← hX] at hI ⊢
    refine calls_i_follows ?_
    unfold sh_i_follows
    refine r_box hI fun b5 w' hI => ?_
    obtain ⟨S1, hI, hE1, hb5⟩ := hI.pub1
    refine r_box hI fun b8 w' hI => ?_
    obtain ⟨S2, hI, hE2, hb8⟩ := hI.pub1
    have hE := hE1.trans hE2
    have hb5 := hE2.1 _ _ hb5
    have hb8 : S2 b8 = some (.cells #[.map (some mb)] _) := hb8
    refine r_field fo_iClause_1 ?_
    refine r_load sc_SiTerm (by rw [hI.cellS hb5]; rfl) ?_
    refine r_lenSl (h2.monoT hE.1) sl_SiTerm ?_
    refine r_eql ?_
    refine condP (fun hb => by omega) (fun _ => ?_)
    refine r_lenSl (hf.monoT hE.1) sl_SiTerm ?_
    rw [follL] at hcan ⊢
    generalize hF : (fun f : T => if (matchT g f st).1 = true then follL c0.head facts gs (matchT g f st).2 else []) = F at hcan ⊢
    have hF2 : ∀ f, F f = if (matchT g f st).1 = true then follL c0.head facts gs (matchT g f st).2 else [] := fun f => by rw [← hF]
    refine ⟨fun j w' => ∃ (k : Nat) (s' : σ) (I' : List Item) (S' : Store), k ≤ facts.length ∧ j = .int .i64 k ∧ ((facts.drop k).flatMap F).foldl step s' = (facts.flatMap F).foldl step s ∧ can s' (((facts.drop k).flatMap F).length + m) ∧ It s' S' I' ∧ Ext w.heap.size X S S' ∧ Sle S2 S' ∧ Inv w X I' S' w',
      fun j _ => facts.length - (intOf j).toNat, ⟨0, s, I, S2, Nat.zero_le _, rfl, rfl, hcan, ht.up _ _ _ _ hE.1 hIt, hE, Sle.refl _, hI⟩, ?_⟩
    intro t26 _ _ _ _ _ _ _ _ _ _ _ _ _ _ _ _ _ _ _ _ _ _ _ w'
    rintro ⟨k, s', I', S', hkl, rfl, hrel, hcan', hIt', hE', hle, hI⟩
    refine r_lss ?_
    refine condP (fun hki => ?_) (fun hki => ?_)
    · have hk' : k < facts.length := by omega
      rw [List.drop_eq_getElem_cons hk', List.flatMap_cons, List.foldl_append] at hrel
      rw [List.drop_eq_getElem_cons hk', List.flatMap_cons, List.length_append, Nat.add_assoc] at hcan'
      have hfk := hfs _ (List.getElem_mem hk')
      refine ⟨fun w' => ∃ (I2 : List Item) (S2 : Store), It ((F facts[k]).foldl step s') S2 I2 ∧ can ((F facts[k]).foldl step s') (((facts.drop (k + 1)).flatMap F).length + m) ∧ Ext w.heap.size X S' S2 ∧ Inv w X I2 S2 w', ?_, ?_⟩
      · refine r_elem hI (hf.monoT hE'.1) sl_SiTerm ag_iTerm hk' (fun _ _ => RdT.length) fun ds hds => ?_
        refine r_alloc hI zo_iTerm fun b11 w' hI => ?_
        have hI := hI.perm (M := .blk b11 _ :: I') (List.perm_append_comm (l₁ := [_]))
        refine r_storeW hI 0 rfl ag_iTerm (by simpa using hds.length) rfl (by simpa using hds.one) fun w' hI => ?_
        have hI := hI.perm (M := I' ++ [.blk b11 (.cells ds.toArray t_iTerm)]) (List.perm_append_comm (l₂ := [_]))
        obtain ⟨S3, hI, hE3, hb11⟩ := hI.pub1
        refine r_load (by decide +kernel) (by rw [hI.cellS (hE3.1 _ _ (hle _ _ hb8))]; rfl) ?_
        refine Run.callE (A := I') (I := []) fn_x_mClone_Term nm_x_mClone_Term (by simpa using hI) (mClone_calls (hE3.1 _ _ (hE'.1 _ _ hm))) fun v' J' S4 w' => ?_
        rintro ⟨e4, nb, rfl, rfl⟩ _ hI
        rw [e4] at hI
        clear e4
        have hk3 := (hk.mono hE'.1).mono hE3.1
        have hds3 := hds.mono hE3.1
        have hS1' := hE3.1 _ _ (hE'.1 _ _ hS1)
        have hR1' := (hR1.mono hE'.1).mono hE3.1
        obtain ⟨r, hr⟩ : ∃ r, r = matchT g facts[k] st := ⟨_, rfl⟩
        have hb5' := hE3.1 _ _ (hle _ _ hb5)
        refine ⟨fun D x39 x38 x37 x36 x35 x34 x33 x32 w_ => (D 0 = true → x32 = .agg ds.toArray) ∧ (D 1 = true → x33 = .pointer (some ⟨b5, 4, none⟩)) ∧ (D 2 = true → x34 = .slice (some ⟨b1, o1, none⟩) c0.body.length cap1) ∧ (D 3 = true → x35 = .int .i64 i) ∧ (D 4 = true → x36 = .pointer (some ⟨b1, o1 + i * 4, none⟩)) ∧ (D 5 = true → x37 = .agg (cellsAt c1 (o1 + i * 4) 4).toArray) ∧ (D 6 = true → x38 = .map (some nb)) ∧ (D 7 = true → x39 = .bool r.1) ∧ ∃ es' ck', (D 7 = false → KnownM S3 es' st) ∧ (D 7 = true → KnownM S3 es' r.2) ∧ Inv w X (I' ++ [.blk nb (.map es' ck')]) S3 w_, ⟨fun h => Bool.noConfusion h, fun h => Bool.noConfusion h, fun h => Bool.noConfusion h, fun h => Bool.noConfusion h, fun h => Bool.noConfusion h, fun h => Bool.noConfusion h, fun h => Bool.noConfusion h, fun h => Bool.noConfusion h, ⟨es, ck, fun _ => hk3, fun h => Bool.noConfusion h, hI.draw⟩⟩, ⟨?_, ?_, ?_, ?_, ?_, ?_, ?_, ?_, trivial⟩, ?_⟩
        · intro D hD_  x39 x38 x37 x36 x35 x34 x33 x32 w_
          rintro ⟨h0_, h1_, h2_, h3_, h4_, h5_, h6_, h7_, ⟨es', ck', kf, kt, hI⟩⟩
          refine r_loadA (cs := ds) ag_iTerm hds.length (fun j v hj => by rw [hI.cellS hb11, Nat.zero_add]; simpa using hj) ?_
          exact ⟨fun _ => rfl, h1_, h2_, h3_, h4_, h5_, h6_, h7_, ⟨es', ck', kf, kt, hI⟩⟩
        · intro D hD_  x39 x38 x37 x36 x35 x34 x33 x32 w_
          rintro ⟨h0_, h1_, h2_, h3_, h4_, h5_, h6_, h7_, ⟨es', ck', kf, kt, hI⟩⟩
          refine r_field fo_iClause_1 ?_
          exact ⟨h0_, fun _ => rfl, h2_, h3_, h4_, h5_, h6_, h7_, ⟨es', ck', kf, kt, hI⟩⟩
        · intro D hD_ d1_0 x39 x38 x37 x36 x35 x34 x33 x32 w_
          rintro ⟨h0_, h1_, h2_, h3_, h4_, h5_, h6_, h7_, ⟨es', ck', kf, kt, hI⟩⟩
          obtain rfl := h1_ d1_0
          refine r_load sc_SiTerm (by rw [hI.cellS hb5']; rfl) ?_
          exact ⟨h0_, h1_, fun _ => rfl, h3_, h4_, h5_, h6_, h7_, ⟨es', ck', kf, kt, hI⟩⟩
        · intro D hD_  x39 x38 x37 x36 x35 x34 x33 x32 w_
          rintro ⟨h0_, h1_, h2_, h3_, h4_, h5_, h6_, h7_, ⟨es', ck', kf, kt, hI⟩⟩
          exact ⟨h0_, h1_, h2_, fun _ => rfl, h4_, h5_, h6_, h7_, ⟨es', ck', kf, kt, hI⟩⟩
        · intro D hD_ d2_0 d3_1 x39 x38 x37 x36 x35 x34 x33 x32 w_
          rintro ⟨h0_, h1_, h2_, h3_, h4_, h5_, h6_, h7_, ⟨es', ck', kf, kt, hI⟩⟩
          obtain rfl := h2_ d2_0
          obtain rfl := h3_ d3_1
          refine r_indexAddr sl_SiTerm hib ?_
          exact ⟨h0_, h1_, h2_, h3_, fun _ => rfl, h5_, h6_, h7_, ⟨es', ck', kf, kt, hI⟩⟩
        · intro D hD_ d4_0 x39 x38 x37 x36 x35 x34 x33 x32 w_
          rintro ⟨h0_, h1_, h2_, h3_, h4_, h5_, h6_, h7_, ⟨es', ck', kf, kt, hI⟩⟩
          obtain rfl := h4_ d4_0
          refine r_loadA ag_iTerm hR1'.length (fun j v hj => by rw [hI.cellS hS1']; exact cellsAt_get rfl j v hj) ?_
          exact ⟨h0_, h1_, h2_, h3_, h4_, fun _ => rfl, h6_, h7_, ⟨es', ck', kf, kt, hI⟩⟩
        · intro D hD_  x39 x38 x37 x36 x35 x34 x33 x32 w_
          rintro ⟨h0_, h1_, h2_, h3_, h4_, h5_, h6_, h7_, ⟨es', ck', kf, kt, hI⟩⟩
          exact ⟨h0_, h1_, h2_, h3_, h4_, h5_, fun _ => rfl, h7_, ⟨es', ck', kf, kt, hI⟩⟩
        · intro D hD_ d0_0 d5_1 d6_2 x39 x38 x37 x36 x35 x34 x33 x32 w_
          rintro ⟨h0_, h1_, h2_, h3_, h4_, h5_, h6_, h7_, ⟨es', ck', kf, kt, hI⟩⟩
          obtain rfl := h0_ d0_0
          obtain rfl := h5_ d5_1
          obtain rfl := h6_ d6_2
          refine Run.callE (A := I') fn_i_instance nm_i_instance hI (instance_calls g facts[k] S3 _ _ nb ck' es' st hR1' hds3 hg.ok.1 hfk.ok.2.1 hst.ok.1 (kf hD_)) fun v' J' S5 w_ => ?_
          rw [← hr]
          rintro ⟨e5, rfl, es', ck', rfl, hk2⟩ _ hI
          rw [e5] at hI
          clear e5
          have kf := fun (e : setD D 7 7 = false) => (Bool.noConfusion e : KnownM S3 es' st)
          have kt := fun (_ : setD D 7 7 = true) => hk2
          exact ⟨h0_, h1_, h2_, h3_, h4_, h5_, h6_, fun _ => rfl, ⟨es', ck', kf, kt, hI⟩⟩
        intro D d7_ d6_ d5_ d4_ d3_ d2_ d1_ d0_ x39 x38 x37 x36 x35 x34 x33 x32 w_
        rintro ⟨h0_, h1_, h2_, h3_, h4_, h5_, h6_, h7_, ⟨es', ck', kf, kt, hI⟩⟩
        obtain rfl := h7_ d7_
        obtain rfl := h6_ d6_
        obtain rfl := h5_ d5_
        obtain rfl := h4_ d4_
        obtain rfl := h3_ d3_
        obtain rfl := h2_ d2_
        obtain rfl := h1_ d1_
        obtain rfl := h0_ d0_
        clear h0_ h1_ h2_ h3_ h4_ h5_ h6_ h7_
        have hk2 := kt d7_
        clear kf kt
        refine condV (fun hb => ?_) (fun hb => ?_)
        · have hFo : F facts[k] = follL c0.head facts gs r.2 := by rw [hF2, ← hr, if_pos hb]
          rw [hFo] at hcan' ⊢
          obtain ⟨S5, hI, hE5, hnb⟩ := hI.pub1
          have hEa := hE3.trans hE5
          refine r_loadA (cs := [.int .i64 c0.head.kind, .int .i64 c0.head.n, .string c0.head.name, kv, .slice (some ⟨b1, o1, none⟩) c0.body.length cap1]) ag_iClause rfl (fun j v hj => by rw [hI.cellS (hE5.1 _ _ hb5'), Nat.zero_add]; simpa [Value.cells] using hj) ?_
          refine r_add (by omega) ?_
          have hst2 : StF r.2 := by rw [hr]; exact (goal_match hg hfk hst).1
          have hc2 : covers c0.head gs r.2 := by rw [hr]; exact covers_step hc hg hfk hst (by rw [← hr]; exact hb)
          have hSa := hE'.1.trans hEa.1
          have hI : Inv w X ([] ++ I') S5 w_ := hI
          refine Run.callE (A := []) fn_i_follows nm_i_follows hI (ih (i + 1) (by omega) hge.2 S5 _ _ nb _ _ s' I' r.2 _ (ht.mono hSa) (h0.mono hSa) (hf.monoT hSa) hnb (hk2.mono hE5.1) hst2 hc2 (ht.up _ _ _ _ hEa.1 hIt') hcan') fun v' J' S6 w' => ?_
          rintro ⟨rfl, hIt2, hcan2⟩ hE6 hI
          exact ⟨_, S6, hIt2, hcan2, hEa.trans hE6, hI⟩
        · have hFo : F facts[k] = [] := by rw [hF2, ← hr, if_neg (by rw [hb]; decide)]
          rw [hFo] at hcan' ⊢
          rw [List.length_nil, Nat.zero_add] at hcan'
          exact ⟨_, S3, ht.up _ _ _ _ hE3.1 hIt', hcan', hE3, hI.sub (List.sublist_append_left _ _)⟩
      intro _ _ _ _ _ _ _ _ _ _ _ _ _ _ _ _ _ _ _ _ _ w'
      rintro ⟨I2, S5, hIt2, hcan2, hE5, hI⟩
      refine r_add (by omega) ?_
      exact ⟨⟨k + 1, _, I2, S5, hk', rfl, hrel, hcan2, hIt2, hE'.trans hE5, hle.trans hE5.1, hI⟩, by simp [intOf]; omega⟩
    · have : k = facts.length := by omega
      subst this
      rw [List.drop_length] at hrel hcan'
      simp only [List.flatMap_nil, List.foldl_nil, List.length_nil, Nat.zero_add] at hrel hcan'
      rw [← hrel]
      exact ⟨_, _, _, rfl, hI, hE', rfl, hIt', hcan'⟩
end

end Go.Proofs.YtgdibnmabnimaaaGreat

/- Rounds of facts: the plain law. -/
namespace Go.Proofs.YtgdibnmabnimaaaGreat
open Go Go.RowKit
def follP (p : List C) (facts : List T) : List T := p.flatMap fun c => follL c.head facts c.body st0
def roundI (p : List C) (facts : List T) : List T := (follP p facts).foldl insT facts
def roundS (p : List C) (facts : List T) : List T := (follP p facts).foldl putC facts
theorem insF_len : ∀ (l out : List T), out.length ≤ (l.foldl insT out).length ∧ (l.foldl insT out).length ≤ out.length + l.length
  | [], out => ⟨Nat.le_refl _, Nat.le_refl _⟩
  | t :: l, out => by
    rw [List.foldl_cons, List.length_cons]
    have h1 := insT_len out t
    have h2 := insF_len l (insT out t)
    omega
theorem insF_mem : ∀ (l out : List T) (y : T), y ∈ l.foldl insT out → y ∈ out ∨ y ∈ l
  | [], out, y, h => .inl h
  | t :: l, out, y, h => by
    rw [List.foldl_cons] at h
    rcases insF_mem l _ y h with h | h
    · rcases insT_mem h with h | rfl
      · exact .inl h
      · exact .inr (List.mem_cons_self ..)
    · exact .inr (List.mem_cons_of_mem _ h)
theorem insF_sorted : ∀ (l out : List T), Sorted out → (∀ x ∈ out, okO x) → (∀ x ∈ l, okO x) → Sorted (l.foldl insT out)
  | [], out, h, _, _ => h
  | t :: l, out, h, ho, hl => by
    rw [List.foldl_cons]
    have ht := hl t (List.mem_cons_self ..)
    refine insF_sorted l _ (insT_sorted h ho ht) (fun x hx => ?_) fun x hx => hl x (List.mem_cons_of_mem _ hx)
    rcases insT_mem hx with hx | rfl
    · exact ho x hx
    · exact ht
theorem ins_put : ∀ (l out : List T), (60 < (l.foldl insT out).length ∧ 60 < (l.foldl putC out).length) ∨ ((l.foldl insT out).length ≤ 60 ∧ l.foldl putC out = l.foldl insT out)
  | [], out => by
    simp only [List.foldl_nil]
    by_cases h : 60 < out.length
    · exact .inl ⟨h, h⟩
    · exact .inr ⟨by omega, trivial⟩
  | t :: l, out => by
    by_cases h : 60 < out.length
    · left
      have h1 := insF_len (t :: l) out
      rw [putC_stay _ _ h]
      omega
    · rw [List.foldl_cons, List.foldl_cons, putC, if_neg h]
      exact ins_put l (insT out t)
theorem follL_len {hd : T} {facts : List T} : ∀ (gs : List T) (st : Known), (follL hd facts gs st).length ≤ facts.length ^ gs.length
  | [], st => by rw [follL]; simp
  | g :: gs, st => by
    rw [follL, List.length_cons, Nat.pow_succ]
    have : ∀ fs : List T, (fs.flatMap fun f => if (matchT g f st).1 = true then follL hd facts gs (matchT g f st).2 else []).length ≤ facts.length ^ gs.length * fs.length := by
      intro fs
      induction fs with
      | nil => simp
      | cons f fs ih =>
        rw [List.flatMap_cons, List.length_append, List.length_cons, Nat.mul_succ]
        have : (if (matchT g f st).1 = true then follL hd facts gs (matchT g f st).2 else []).length ≤ facts.length ^ gs.length := by
          split
          · exact follL_len gs _
          · simp
        omega
    exact this facts
/- the facts of a stage -/
structure Fs (f : List T) : Prop where
  sorted : Sorted f
  fct : ∀ x ∈ f, Fct x
theorem Fs.nil : Fs [] := ⟨trivial, by simp⟩
theorem Fs.okO {f : List T} (h : Fs f) : ∀ x ∈ f, okO x := fun x hx => (h.fct x hx).ok.2.2.1
structure Pf (p : List C) : Prop where
  len : p.length ≤ 20
  parts : ∀ c ∈ p, Gl c.head ∧ (∀ g ∈ c.body, Gl g) ∧ covers c.head c.body st0
  three : ∀ c ∈ p, c.body.length ≤ 3
theorem follP_Fct {p : List C} {f : List T} (hp : Pf p) (hf : Fs f) : ∀ x ∈ follP p f, Fct x := by
  intro x hx
  rw [follP, List.mem_flatMap] at hx
  obtain ⟨c, hc, hx⟩ := hx
  obtain ⟨h1, h2, h3⟩ := hp.parts c hc
  exact foll_Fct h1 hf.fct c.body st0 h2 st0_F h3 x hx
theorem foll_216 {c : C} {f : List T} (h3 : c.body.length ≤ 3) (hf : f.length ≤ 60) : (follL c.head f c.body st0).length ≤ 216000 := by
  refine Nat.le_trans (follL_len _ _) ?_
  have h1 : f.length ^ c.body.length ≤ 60 ^ c.body.length := Nat.pow_le_pow_left hf _
  have h2 : 60 ^ c.body.length ≤ 60 ^ 3 := Nat.pow_le_pow_right (by decide) h3
  exact Nat.le_trans h1 (Nat.le_trans h2 (by decide))
theorem roundI_Fs {p : List C} {f : List T} (hp : Pf p) (hf : Fs f) : Fs (roundI p f) := by
  have h1 := follP_Fct hp hf
  refine ⟨insF_sorted _ _ hf.sorted hf.okO fun x hx => (h1 x hx).ok.2.2.1, fun x hx => ?_⟩
  rcases insF_mem _ _ _ hx with hx | hx
  · exact hf.fct x hx
  · exact h1 x hx
theorem roundS_Fs {p : List C} {f : List T} (hp : Pf p) (hf : Fs f) : Fs (roundS p f) := by
  have h1 := follP_Fct hp hf
  refine ⟨fold_sorted _ _ hf.sorted hf.okO fun x hx => (h1 x hx).ok.2.2.1, fun x hx => ?_⟩
  rcases fold_mem _ _ _ hx with hx | hx
  · exact hf.fct x hx
  · exact h1 x hx
theorem roundS_len (p : List C) (f : List T) (h : f.length ≤ 61) : f.length ≤ (roundS p f).length ∧ (roundS p f).length ≤ 61 := by
  have := fold_len (follP p f) f
  rw [roundS]
  omega
def stI (p : List C) : Nat → List T → Nat → Option (List T × Nat)
  | 0, f, n => some (f, n)
  | k + 1, f, n => if 60 < (roundI p f).length then none else if (roundI p f).length = f.length then some (f, n) else stI p k (roundI p f) (n + 1)
def stS (p : List C) : Nat → List T → Nat → List T × Nat
  | 0, f, n => (f, n)
  | k + 1, f, n => if (roundS p f).length = f.length ∨ 60 < f.length then (f, n) else stS p k (roundS p f) (n + 1)
theorem stI_stS (p : List C) : ∀ (k : Nat) (f : List T) (n : Nat), f.length ≤ 60 → (stI p k f n = none ∧ 60 < (stS p k f n).1.length) ∨ (stI p k f n = some (stS p k f n) ∧ (stS p k f n).1.length ≤ 60)
  | 0, f, n, hf => .inr ⟨rfl, hf⟩
  | k + 1, f, n, hf => by
    rw [stI, stS]
    rcases ins_put (follP p f) f with ⟨h1, h2⟩ | ⟨h1, h2⟩
    · left
      have h1 : 60 < (roundI p f).length := h1
      have h2 : 60 < (roundS p f).length := h2
      rw [if_pos h1, if_neg (by omega)]
      refine ⟨rfl, ?_⟩
      cases k with
      | zero => exact h2
      | succ k =>
        rw [stS, if_pos (.inr h2)]
        exact h2
    · have h1 : (roundI p f).length ≤ 60 := h1
      have h2 : roundS p f = roundI p f := h2
      rw [if_neg (by omega), h2]
      by_cases he : (roundI p f).length = f.length
      · rw [if_pos he, if_pos (.inl he)]
        exact .inr ⟨rfl, hf⟩
      · rw [if_neg he, if_neg (by omega)]
        exact stI_stS p k _ _ h1
theorem stI_fuel (p : List C) : ∀ (j k : Nat) (f : List T) (n : Nat), j ≤ k → 61 ≤ j + f.length → f.length ≤ 60 → stI p k f n = stI p j f n
  | 0, k, f, n, _, h1, h2 => by omega
  | j + 1, 0, f, n, h, _, _ => by omega
  | j + 1, k + 1, f, n, h, h1, h2 => by
    rw [stI, stI]
    split
    · rfl
    · split
      · rfl
      · rename_i h3 h4
        have := insF_len (follP p f) f
        have h5 : f.length ≤ (roundI p f).length := this.1
        exact stI_fuel p j k _ _ (by omega) (by omega) (by omega)
theorem stS_Fs {p : List C} (hp : Pf p) : ∀ (k : Nat) (f : List T) (n : Nat), Fs f → f.length ≤ 61 → Fs (stS p k f n).1 ∧ (stS p k f n).1.length ≤ 61
  | 0, f, n, hf, hl => ⟨hf, hl⟩
  | k + 1, f, n, hf, hl => by
    rw [stS]
    split
    · exact ⟨hf, hl⟩
    · exact stS_Fs hp k _ _ (roundS_Fs hp hf) (roundS_len p f hl).2
def fuelR (r : Int) : Nat := if 60 < r then 61 else r.toNat
def stageB (p : List C) (r : Int) : List T × Bool :=
  if (flatP p && !decide (r < 0)) = true then
    (if (stS p (fuelR r) [] 0).1.length ≤ 60 then ((stS p (fuelR r) [] 0).1, true) else ([], false))
  else ([], false)
def roundsB (p : List C) : Int := if flatP p = true then (if (stS p 61 [] 0).1.length ≤ 60 then ((stS p 61 [] 0).2 : Int) else -1) else -1
theorem Pf.take {p : List C} (h : Pf p) (j : Nat) : Pf (p.take j) := ⟨by have := h.len; rw [List.length_take]; omega, fun c hc => h.parts c (List.mem_of_mem_take hc), fun c hc => h.three c (List.mem_of_mem_take hc)⟩
theorem follP_snoc (p : List C) (f : List T) (j : Nat) (hj : j < p.length) : follP (p.take (j + 1)) f = follP (p.take j) f ++ follL p[j].head f p[j].body st0 := by
  rw [follP, List.take_succ_eq_append_getElem hj, List.flatMap_append, List.flatMap_cons, List.flatMap_nil, List.append_nil]
  rfl
theorem follP_len {p : List C} {f : List T} (hp : Pf p) (hf : f.length ≤ 60) : ∀ j, j ≤ p.length → (follP (p.take j) f).length ≤ j * 216000
  | 0, _ => by simp [follP]
  | j + 1, h => by
    have hj : j < p.length := by omega
    rw [follP_snoc p f j hj, List.length_append]
    have h1 := follP_len hp hf j (by omega)
    have h2 := foll_216 (hp.three _ (List.getElem_mem hj)) hf
    omega
theorem stage_eq (p : List C) (r : Int) : (stI p r.toNat [] 0 = none ∧ 60 < (stS p (fuelR r) [] 0).1.length) ∨ (stI p r.toNat [] 0 = some (stS p (fuelR r) [] 0) ∧ (stS p (fuelR r) [] 0).1.length ≤ 60) := by
  have e : stI p r.toNat [] 0 = stI p (fuelR r) [] 0 := by
    unfold fuelR
    split
    · exact stI_fuel p 61 _ [] 0 (by omega) (by simp) (by simp)
    · rfl
  rw [e]
  exact stI_stS p _ [] 0 (by simp)
theorem Fs.w {f : List T} (h : Fs f) : wL f ≤ f.length * 34 := wL_bound f 34 fun t ht => (h.fct t ht).ok.2.2.2
theorem stageB_w {p : List C} (hp : flatP p = true → Pf p) (r : Int) : (stageB p r).1.length ≤ 60 ∧ wL (stageB p r).1 ≤ 2040 := by
  unfold stageB
  split
  · rename_i h
    rw [Bool.and_eq_true] at h
    have h1 := (stS_Fs (hp h.1) (fuelR r) [] 0 Fs.nil (by simp)).1
    split
    · rename_i h2
      have := h1.w
      refine ⟨h2, ?_⟩
      show wL (stS p (fuelR r) [] 0).1 ≤ 2040
      omega
    · simp [wL]
  · simp [wL]

end Go.Proofs.YtgdibnmabnimaaaGreat

/- impl.insert; a round's function that is told facts. -/
namespace Go.Proofs.YtgdibnmabnimaaaGreat
open Go Go.RowKit
theorem Rows.insert {α : Type} {k : Nat} {R : List Value → α → Prop} {css : List (List Value)} {ys : List α} (h : Rows k R css ys) {cs : List Value} {y : α} (hR : R cs y) (hl : cs.length = k) (i : Nat) :
    Rows k R (css.take i ++ cs :: css.drop i) (ys.take i ++ y :: ys.drop i) := by
  have h1 : Rows k R (css.take i) (ys.take i) := ⟨by simp [h.hc], fun c hc => h.hk c (List.mem_of_mem_take hc), fun j h2 h3 => by
    rw [List.getElem_take, List.getElem_take]
    exact h.hR j _ _⟩
  have h2 : Rows k R (css.drop i) (ys.drop i) := ⟨by simp [h.hc], fun c hc => h.hk c (List.mem_of_mem_drop hc), fun j h2 h3 => by
    rw [List.getElem_drop, List.getElem_drop]
    exact h.hR (i + j) _ _⟩
  have := (h1.append (Rows.one hR hl)).append h2
  simpa using this
theorem RdT.oneRows {S : Store} {css : List (List Value)} {ys : List T} (h : Rows 4 (RdT S) css ys) : ∀ c ∈ css, ∀ u ∈ c, u.oneCell' = true := by
  intro c hc
  obtain ⟨j, hj, rfl⟩ := List.mem_iff_getElem.1 hc
  have e := h.hc
  exact (h.hR j (by omega) hj).one
theorem row_cells {w : World} {v : Value} {e : TypeId} {k n : Nat} {xs : List Value} (h : (Item.row v e k n xs).holds w) : v.cells = #[v] ∧ v.oneCell' = true := by
  have h : w.ownsRow 0 e k v n xs := h
  rcases h.2 with ⟨rfl, _⟩ | ⟨g, cap, cur, rfl, _⟩ <;> exact ⟨rfl, rfl⟩
section
attribute [local irreducible] Run CondV GuardV LoadV
theorem i_insert_calls {l : List T} {t : T} {S : Store} {v : Value} {css : List (List Value)} {cs : List Value} (hR : Rows 4 (RdT S) css l) (hcs : RdT S cs t) (hl : ∀ x ∈ l, okO x) (ht : okO t) (hs : Sorted l) (hn : l.length ≤ 100000000) (hw : wT t ≤ 1048576) :
    Tri Tryz.prog n_i_insert [v, .agg cs.toArray] [rowG v t_iTerm 4 css] S fun r I' S' => ∃ css', I' = [rowG r t_iTerm 4 css'] ∧ Rows 4 (RdT S') css' (insT l t) := by
  intro w hI
  have hlc := hcs.length
  have hcl := hR.hc
  obtain ⟨X, hX⟩ : ∃ X, X = feet [rowG v t_iTerm 4 css] := ⟨_, rfl⟩
  rw [← hX] at hI ⊢
  refine calls_i_insert ?_
  unfold sh_i_insert
  refine r_box hI fun b1 w' hI => ?_
  have hI : Inv w X ([.blk b1 (.cells cs.toArray t_iTerm)] ++ [rowG v t_iTerm 4 css]) S w' := hI.perm (List.perm_append_comm (l₁ := [_]))
  refine r_loadW hI 0 ag_iTerm rfl (by simpa using hlc) ?_
  obtain ⟨S1, hle1, hrd, hI1, hback⟩ := Inv.lend (A := [_]) hI
  have hrows := RowRd.rows (hR.monoR fun _ _ h => RdT.mono hle1 h) hrd
  obtain ⟨i, hpos, hcall⟩ := BinarySearch_calls hrows (hcs.mono hle1) hl ht hs hn
  refine Run.callPure fn_x_BinarySearchFunc_Term nm_x_BinarySearchFunc_Term hI1 hcall fun w' hI1 => ?_
  have hI := hback _ _ hI1
  refine r_extract rfl ?_
  refine r_extract rfl ?_
  refine condV (fun hb => ?_) (fun hb => ?_)
  · have hb' : foundB l t i = true := hb
    rw [foundB] at hb'
    split at hb'
    · rename_i hi
      rw [ins_same hpos hi hb']
      exact ⟨_, _, _, rfl, hI.pick [false, true], Ext.refl _ _ _, css, rfl, hR⟩
    · cases hb'
  · have hb' : foundB l t i = false := hb
    have hnew : insT l t = l.take i ++ t :: l.drop i := ins_new hpos fun hi => by
      rw [foundB, dif_pos hi] at hb'
      exact hb'
    have hil := hpos.1
    refine r_loadW hI 0 ag_iTerm rfl (by simpa using hlc) ?_
    refine Run.call0E fn_i_own nm_i_own hI (own_calls t S cs hcs hw) fun v' I' S' w' => ?_
    rintro ⟨rfl, cs', L, rfl, rfl, hT⟩ _ hI
    obtain ⟨S2, hI, hE2, hins⟩ := Inv.pubExt hI
    have hrd := TrT.rd hT hins
    refine r_slice1 hI mk_SiTerm (by simp [Value.cells, hrd.length]) (by decide) (by decide) fun ub w' hI => ?_
    have hI : Inv w X ([.blk b1 (.cells cs.toArray t_iTerm)] ++ [rowG v t_iTerm 4 css, .blk ub (.cells cs'.toArray t_iTerm)]) S2 w' := hI
    refine Run.callE (A := [_]) fn_x_Insert_Term nm_x_Insert_Term hI (Insert_calls hR.hk (RdT.oneRows hR) hrd.length hrd.one (by omega) (by omega)) fun r I' S3 w' => ?_
    rintro ⟨e3, rfl⟩ _ hI
    rw [e3] at hI
    refine ⟨_, _, _, rfl, hI.pick [false, true], hE2, _, rfl, ?_⟩
    rw [hnew]
    exact (hR.monoR fun _ _ h => RdT.mono hE2.1 h).insert hrd hrd.length i
def ItR (b : Nat) (s : List T) (S : Store) (I : List Item) : Prop := Fs s ∧ ∃ v css, I = [.blk b (.cells #[v] t_SiTerm), rowG v t_iTerm 4 css] ∧ Rows 4 (RdT S) css s
def canR (s : List T) (n : Nat) : Prop := s.length + n ≤ 100000000
theorem tellR {S0 : Store} {b : Nat} : Tell n_i_round_1 Tryz.f51 [.pointer (some ⟨b, 0, none⟩)] (ItR b) canR insT S0 := by
  refine ⟨fn_i_round_1, nm_i_round_1, fun s S S' I hle h => ?_, fun s x n hx h => ?_, fun S s x cs I n hle hx hcs hIt hcan w hI => ?_⟩
  · obtain ⟨h1, v, css, h2, h3⟩ := h
    exact ⟨h1, v, css, h2, h3.monoR fun _ _ h => RdT.mono hle h⟩
  · unfold canR at h ⊢
    have := insT_len s x
    omega
  · obtain ⟨hFs, v, css, rfl, hR⟩ := hIt
    unfold canR at hcan
    have hlc := hcs.length
    obtain ⟨X, hX⟩ : ∃ X, X = feet [Item.blk b (.cells #[v] t_SiTerm), rowG v t_iTerm 4 css] := ⟨_, rfl⟩
    rw [← hX] at hI ⊢
    refine calls_i_round_1 ?_
    unfold sh_i_round_1
    refine r_box hI fun b1 w' hI => ?_
    have hI : Inv w X [.blk b1 (.cells cs.toArray t_iTerm), .blk b (.cells #[v] t_SiTerm), rowG v t_iTerm 4 css] S w' := hI.perm (List.perm_append_comm (l₁ := [_]))
    refine r_loadL hI 1 sc_SiTerm rfl rfl ?_
    refine r_loadW hI 0 ag_iTerm rfl (by simpa using hlc) ?_
    have hok := hx.ok
    have hI : Inv w X ([.blk b1 (.cells cs.toArray t_iTerm), .blk b (.cells #[v] t_SiTerm)] ++ [rowG v t_iTerm 4 css]) S w' := hI
    refine Run.callE fn_i_insert nm_i_insert hI (i_insert_calls hR hcs hFs.okO hok.2.2.1 hFs.sorted (by omega) (by omega)) fun r I' S1 w' => ?_
    rintro ⟨css', rfl, hR'⟩ hE hI
    have hI : Inv w X [.blk b1 (.cells cs.toArray t_iTerm), .blk b (.cells #[v] t_SiTerm), rowG r t_iTerm 4 css'] S1 w' := hI
    have hr : r.cells = #[r] ∧ r.oneCell' = true := row_cells (hI.its (rowG r t_iTerm 4 css') (by simp))
    refine r_store hI 1 (n := 1) (by rw [hr.1]; rfl) (by decide +kernel) rfl (by simp) (by rw [hr.1]; intro u hu; simp at hu; subst hu; exact hr.2) fun w' hI => ?_
    have hI : Inv w X [.blk b1 (.cells cs.toArray t_iTerm), .blk b (.cells (putCells #[v] 0 r.cells.toList) t_SiTerm), rowG r t_iTerm 4 css'] S1 w' := hI
    have e : putCells #[v] 0 r.cells.toList = #[r] := by rw [hr.1]; rfl
    rw [e] at hI
    refine ⟨_, _, _, rfl, hI.pick [false, true, true], hE, rfl, ⟨insT_sorted hFs.sorted hFs.okO hok.2.2.1, fun y hy => ?_⟩, r, css', rfl, hR'⟩
    rcases insT_mem hy with hy | rfl
    · exact hFs.fct y hy
    · exact hx
end

end Go.Proofs.YtgdibnmabnimaaaGreat

/- impl: rounds and stages. -/
namespace Go.Proofs.YtgdibnmabnimaaaGreat
open Go Go.RowKit
theorem flatP_Pf {p : List C} (h : flatP p = true) : Pf p := by
  have h0 := h
  rw [flatP, Bool.and_eq_true, List.all_eq_true] at h
  have h1 := h.1
  rw [progB] at h1
  simp only [Bool.and_eq_true, decide_eq_true_eq] at h1
  refine ⟨h1.1, flatP_parts h0, fun c hc => ?_⟩
  have h2 := h.2 c hc
  rw [flatC] at h2
  simp only [Bool.and_eq_true, decide_eq_true_eq] at h2
  exact h2.2.1
def lenV : Value → Nat
  | .slice _ n _ => n
  | _ => 0
theorem RdSl.lenV {α : Type} {S : Store} {k : Nat} {R : List Value → α → Prop} {v : Value} {xs : List α} (h : RdSl S k R v xs) : lenV v = xs.length := by
  obtain ⟨a, cap, rfl, _⟩ := h
  rfl
abbrev PostSB (ys : List T) (b : Bool) : Value → List Item → Store → Prop := fun r I' _ => ∃ u L, r = .tuple #[u, .bool b] ∧ I' = blks L ∧ TrSl 4 TrT L u ys
theorem row_slice {w : World} {v : Value} {e : TypeId} {k n : Nat} {xs : List Value} (h : (Item.row v e k n xs).holds w) : ∃ a cap, v = .slice a n cap := by
  have h : w.ownsRow 0 e k v n xs := h
  rcases h.2 with ⟨rfl, rfl⟩ | ⟨g, cap, cur, rfl, _⟩ <;> exact ⟨_, _, rfl⟩
section
attribute [local irreducible] Run CondV GuardV LoadV
theorem i_round_calls {p : List C} {f : List T} {S : Store} {v u : Value} (h : RdSl S 5 (RdC S) v p) (hq : RdSl S 4 (RdT S) u f) (hp : Pf p) (hf : Fs f) (hl : f.length ≤ 60) :
    Tri Tryz.prog n_i_round [v, u] [] S fun r I' S' => I' = [] ∧ ∃ x, r = .tuple #[x, .bool (decide ((roundI p f).length ≤ 60))] ∧ RdSl S' 4 (RdT S') x (roundI p f) := by
  intro w hI
  have hlen := hp.len
  have hI : Inv w [] [] S w := hI
  refine calls_i_round ?_
  unfold sh_i_round
  refine Run.call0 fn_x_Clone_Term nm_x_Clone_Term hI (Clone_Term_calls hq (by omega)) fun x0 I' S' w' => ?_
  rintro ⟨eS, css, rfl, hR⟩ _ hI
  rw [eS] at hI
  clear eS
  have hz : zeroOf Tryz.prog t_SiTerm = some (.slice none 0 0) := by kernel_rfl
  refine r_alloc hI hz fun b6 w' hI => ?_
  have hI := hI.perm (M := .blk b6 _ :: [rowG x0 t_iTerm 4 css]) (List.perm_append_comm (l₁ := [_]))
  have hx0 := row_cells (hI.its (rowG x0 t_iTerm 4 css) (by simp))
  refine r_store hI 0 (n := 1) (by rw [hx0.1]; rfl) (by decide +kernel) rfl (by simp [Value.cells]) (by rw [hx0.1]; intro u hu; simp at hu; subst hu; exact hx0.2) fun w' hI => ?_
  have e : putCells (Value.slice none 0 0).cells 0 x0.cells.toList = #[x0] := by rw [hx0.1]; rfl
  rw [e] at hI
  have hI : Inv w [] [.blk b6 (.cells #[x0] t_SiTerm), rowG x0 t_iTerm 4 css] S w' := hI
  refine r_lenSl h sl_SiClause ?_
  refine ⟨fun i w' => ∃ (j : Nat) (S' : Store) (I' : List Item), j ≤ p.length ∧ i = .int .i64 j ∧ Ext w.heap.size [] S S' ∧ ItR b6 ((follP (p.take j) f).foldl insT f) S' I' ∧ Inv w [] I' S' w',
    fun i _ => p.length - (intOf i).toNat, ⟨0, S, _, Nat.zero_le _, rfl, Ext.refl _ _ _, ⟨hf, x0, css, rfl, hR⟩, hI⟩, ?_⟩
  intro t13 _ _ _ _ _ _ _ _ _ _ w'
  rintro ⟨j, S', I', hj, rfl, hE, hIt, hI⟩
  refine r_lss ?_
  refine condP (fun hji => ?_) (fun hji => ?_)
  · have hj' : j < p.length := by omega
    obtain ⟨hp1, hp2, hp3⟩ := hp.parts _ (List.getElem_mem hj')
    have h3 := hp.three _ (List.getElem_mem hj')
    refine r_elem hI (h.monoC hE.1) sl_SiClause ag_iClause hj' (fun _ _ => RdC.length) fun cs hcs => ?_
    have hlc := hcs.length
    refine r_alloc hI zo_iClause fun b7 w' hI => ?_
    have hI := hI.perm (M := .blk b7 _ :: I') (List.perm_append_comm (l₁ := [_]))
    refine r_storeW hI 0 rfl ag_iClause (by simpa using hlc) rfl (by simpa using hcs.one) fun w' hI => ?_
    refine r_loadW hI 0 ag_iClause rfl (by simpa using hlc) ?_
    have hI : Inv w [] I' S' w' := hI.sub (List.sublist_cons_self _ _)
    refine r_makeMap hI fun mb w' hI => ?_
    obtain ⟨S2, hI, hE2, hmb⟩ := hI.pub1
    refine r_makeFunc ?_
    have hI : Inv w [] ([] ++ I') S2 w' := hI
    have hle := hE.1.trans hE2.1
    have hb1 := follP_len hp hl j (by omega)
    have hb2 := foll_216 h3 hl
    have hb3 := insF_len (follP (p.take j) f) f
    have hIt2 := (tellR (b := b6) (S0 := S2)).up _ _ _ _ hE2.1 hIt
    refine Run.callE (A := []) fn_i_follows nm_i_follows hI (follows_calls p[j] f hp1 hf.fct hp2 p[j].body 0 (by simp) rfl S2 cs _ mb 0 #[] _ _ st0 0 (tellR (b := b6)) (hcs.mono hE2.1) (hq.monoT hle) hmb (KnownM.empty S2) st0_F hp3 hIt2 (by unfold canR; omega)) fun v' I3 S3 w' => ?_
    rintro ⟨rfl, hIt3, _⟩ hE3 hI
    refine r_add (by omega) ?_
    refine ⟨⟨j + 1, S3, I3, hj', rfl, (hE.trans hE2).trans hE3, ?_, hI⟩, by simp [intOf]; omega⟩
    rw [follP_snoc p f j hj', List.foldl_append]
    exact hIt3
  · have : j = p.length := by omega
    subst this
    rw [List.take_length] at hIt
    obtain ⟨hFs, x, css2, rfl, hR2⟩ := hIt
    have hcl := hR2.hc
    obtain ⟨ax, capx, rfl⟩ := row_slice (hI.its (rowG x t_iTerm 4 css2) (by simp))
    refine ⟨fun D x5 x4 x26 x25 x24 x23 w_ => (D 0 = true → x23 = .slice ax css2.length capx) ∧ (D 1 = true → x24 = .slice ax css2.length capx) ∧ (D 2 = true → x25 = .int .i64 css2.length) ∧ (D 3 = true → x26 = .bool (decide ((css2.length : Int) ≤ 60))) ∧ (D 4 = true → x4 = .slice ax css2.length capx) ∧ (D 5 = true → x5 = .bool (decide ((css2.length : Int) ≤ 60))) ∧ Inv w [] [.blk b6 (.cells #[.slice ax css2.length capx] t_SiTerm), rowG (.slice ax css2.length capx) t_iTerm 4 css2] S' w_, ⟨fun h => Bool.noConfusion h, fun h => Bool.noConfusion h, fun h => Bool.noConfusion h, fun h => Bool.noConfusion h, fun h => Bool.noConfusion h, fun h => Bool.noConfusion h, hI.draw⟩, ⟨?_, ?_, ?_, ?_, ?_, ?_, trivial⟩, ?_⟩
    · intro D hD_  x5 x4 x26 x25 x24 x23 w_
      rintro ⟨h0_, h1_, h2_, h3_, h4_, h5_, hI⟩
      refine r_loadL hI 0 sc_SiTerm rfl rfl ?_
      exact ⟨fun _ => rfl, h1_, h2_, h3_, h4_, h5_, hI⟩
    · intro D hD_  x5 x4 x26 x25 x24 x23 w_
      rintro ⟨h0_, h1_, h2_, h3_, h4_, h5_, hI⟩
      refine r_loadL hI 0 sc_SiTerm rfl rfl ?_
      exact ⟨h0_, fun _ => rfl, h2_, h3_, h4_, h5_, hI⟩
    · intro D hD_ d1_0 x5 x4 x26 x25 x24 x23 w_
      rintro ⟨h0_, h1_, h2_, h3_, h4_, h5_, hI⟩
      obtain rfl := h1_ d1_0
      refine r_len sl_SiTerm ?_
      exact ⟨h0_, h1_, fun _ => rfl, h3_, h4_, h5_, hI⟩
    · intro D hD_ d2_0 x5 x4 x26 x25 x24 x23 w_
      rintro ⟨h0_, h1_, h2_, h3_, h4_, h5_, hI⟩
      obtain rfl := h2_ d2_0
      refine r_leq ?_
      exact ⟨h0_, h1_, h2_, fun _ => rfl, h4_, h5_, hI⟩
    · intro D hD_ d0_0 d0_1 x5 x4 x26 x25 x24 x23 w_
      rintro ⟨h0_, h1_, h2_, h3_, h4_, h5_, hI⟩
      obtain rfl := h0_ d0_0
      exact ⟨h0_, h1_, h2_, h3_, fun _ => rfl, h5_, hI⟩
    · intro D hD_ d3_0 d4_1 d0_2 d1_3 d2_4 d3_5 d4_6 x5 x4 x26 x25 x24 x23 w_
      rintro ⟨h0_, h1_, h2_, h3_, h4_, h5_, hI⟩
      obtain rfl := h3_ d3_0
      exact ⟨h0_, h1_, h2_, h3_, h4_, fun _ => rfl, hI⟩
    intro D d5_ d4_ d3_ d2_ d1_ d0_ x5 x4 x26 x25 x24 x23 w_
    rintro ⟨h0_, h1_, h2_, h3_, h4_, h5_, hI⟩
    obtain rfl := h5_ d5_
    obtain rfl := h4_ d4_
    obtain rfl := h3_ d3_
    obtain rfl := h2_ d2_
    obtain rfl := h1_ d1_
    obtain rfl := h0_ d0_
    clear h0_ h1_ h2_ h3_ h4_ h5_
    have hI : Inv w [] ([.blk b6 (.cells #[.slice ax css2.length capx] t_SiTerm)] ++ [rowG (.slice ax css2.length capx) t_iTerm 4 css2]) S' w_ := hI
    obtain ⟨S3, hE3, hrd, hI⟩ := hI.lendExt
    have hr := RowRd.rows (hR2.monoR fun _ _ h => RdT.mono hE3.1 h) hrd
    refine ⟨_, _, _, rfl, hI.nil, hE.trans hE3, rfl, _, ?_, hr⟩
    have e1 : (roundI p f).length = css2.length := by rw [hcl]; rfl
    have e2 : decide ((css2.length : Int) ≤ 60) = decide ((roundI p f).length ≤ 60) := by
      rw [e1, Bool.eq_iff_iff, decide_eq_true_eq, decide_eq_true_eq]
      omega
    rw [e2]
theorem i_stages_calls {p : List C} {S : Store} {v : Value} (h : RdSl S 5 (RdC S) v p) (hw : wP p ≤ 1048576) (k : Nat) (hk : k ≤ 9223372036854775807) :
    Tri Tryz.prog n_i_stages [v, .int .i64 k] [] S fun r I' S' => I' = [] ∧ ((flatP p = true ∧ ∃ x f n, stI p k [] 0 = some (f, n) ∧ r = .tuple #[x, .int .i64 (n : Nat), .bool true] ∧ RdSl S' 4 (RdT S') x f) ∨
      ((flatP p = false ∨ stI p k [] 0 = none) ∧ r = .tuple #[.slice none 0 0, .int .i64 0, .bool false])) := by
  intro w hI
  have hI : Inv w [] [] S w := hI
  refine calls_i_stages ?_
  unfold sh_i_stages
  refine Run.callPure fn_i_FlatProgram nm_i_FlatProgram hI (iFlatProgram_calls h hw) fun w' hI => ?_
  refine r_not ?_
  refine condV (fun hb => ?_) (fun hb => ?_)
  · exact ⟨_, _, _, rfl, hI, Ext.refl _ _ _, rfl, .inr ⟨.inl (by simpa using hb), rfl⟩⟩
  have hfl : flatP p = true := by simpa using hb
  have hp := flatP_Pf hfl
  refine ⟨fun t8 t7 w' => ∃ (n : Nat) (f : List T) (S' : Store), t8 = .int .i64 n ∧ RdSl S' 4 (RdT S') t7 f ∧ stI p k [] 0 = some (f, n) ∧ Ext w.heap.size [] S S' ∧ Inv w [] [] S' w', ?_, ?_⟩
  · refine ⟨fun t8 t7 w' => ∃ (n : Nat) (f : List T) (S' : Store), t8 = .int .i64 n ∧ n ≤ k ∧ RdSl S' 4 (RdT S') t7 f ∧ Fs f ∧ f.length ≤ 60 ∧ stI p (k - n) f n = stI p k [] 0 ∧ Ext w.heap.size [] S S' ∧ Inv w [] [] S' w',
      fun _ t7 _ => 61 - lenV t7, ⟨0, [], S, rfl, Nat.zero_le _, ⟨none, 0, rfl, Nat.le_refl _, Nat.zero_le _, .inl rfl⟩, Fs.nil, by simp, rfl, Ext.refl _ _ _, hI⟩, ?_⟩
    intro t8 _ _ t7 _ _ _ _ _ _ _ _ _ _ _ _ _ _ _ _ _ _ _ _ _ _ w'
    rintro ⟨n, f, S', rfl, hnk, hq, hF, hl, hst, hE, hI⟩
    refine r_lss ?_
    refine condP (fun hnk' => ?_) (fun hnk' => ?_)
    · have hnk2 : n < k := by omega
      rw [show k - n = (k - (n + 1)) + 1 by omega, stI] at hst
      refine Run.call0E fn_i_round nm_i_round hI (i_round_calls (h.monoC hE.1) hq hp hF hl) fun v' I' S2 w' => ?_
      rintro ⟨rfl, x, rfl, hx⟩ hE2 hI
      have hI : Inv w [] [] S2 w' := hI
      have hE3 := hE.trans hE2
      refine r_extract rfl ?_
      refine r_extract rfl ?_
      refine r_not ?_
      refine condV (fun hb => ?_) (fun hb => ?_)
      · have hb' : ¬ (roundI p f).length ≤ 60 := by simpa using hb
        rw [if_pos (by omega)] at hst
        exact ⟨_, _, _, rfl, hI, hE3, rfl, .inr ⟨.inr hst.symm, rfl⟩⟩
      · have hb' : (roundI p f).length ≤ 60 := by simpa using hb
        rw [if_neg (by omega)] at hst
        refine r_lenSl hx sl_SiTerm ?_
        refine r_lenSl (hq.monoT hE2.1) sl_SiTerm ?_
        refine r_eql ?_
        refine condP (fun he => ?_) (fun he => ?_)
        · rw [if_pos (by omega)] at hst
          exact ⟨n, f, S2, rfl, hq.monoT hE2.1, hst.symm, hE3, hI⟩
        · rw [if_neg (by omega)] at hst
          have hgr := (insF_len (follP p f) f).1
          have hgr : f.length ≤ (roundI p f).length := hgr
          refine r_add (by omega) ?_
          refine ⟨⟨n + 1, _, S2, rfl, hnk2, hx, roundI_Fs hp hF, hb', hst, hE3, hI⟩, ?_⟩
          show 61 - lenV x < 61 - lenV t7
          rw [hx.lenV, hq.lenV]
          omega
    · have : n = k := by omega
      subst this
      rw [Nat.sub_self, stI] at hst
      exact ⟨n, f, S', rfl, hq, hst.symm, hE, hI⟩
  · intro t8 _ _ t7 _ _ _ _ _ _ _ _ _ _ _ _ _ _ _ _ _ _ _ _ _ _ w'
    rintro ⟨n, f, S', rfl, hq, hst, hE, hI⟩
    exact ⟨_, _, _, rfl, hI, hE, rfl, .inl ⟨hfl, t7, f, n, hst, rfl, hq⟩⟩
theorem i_StageModel_calls {p : List C} {S : Store} {v : Value} (h : RdSl S 5 (RdC S) v p) (hw : wP p ≤ 1048576) (r : Int) (hr : r ≤ 9223372036854775807) :
    Tri Tryz.prog n_i_StageModel [v, .int .i64 r] [] S (PostSB (stageB p r).1 (stageB p r).2) := by
  intro w hI
  have hI : Inv w [] [] S w := hI
  refine calls_i_StageModel ?_
  unfold sh_i_StageModel
  refine r_lss ?_
  refine condP (fun hr0 => ?_) (fun hr0 => ?_)
  · have e : stageB p r = ([], false) := by
      rw [stageB, decide_eq_true (by omega : r < 0), Bool.not_true, Bool.and_false, if_neg (by decide)]
    rw [e]
    exact ⟨_, _, _, rfl, hI, Ext.refl _ _ _, _, [], rfl, rfl, TrSl.nil (Nat.zero_le _)⟩
  have hr0' : 0 ≤ r := by omega
  obtain ⟨k, rfl⟩ : ∃ k : Nat, r = k := ⟨r.toNat, by omega⟩
  refine Run.call0E fn_i_stages nm_i_stages hI (i_stages_calls h hw k (by omega)) fun v' I' S2 w' => ?_
  rintro ⟨rfl, hcase⟩ hE hI
  have hI : Inv w [] [] S2 w' := hI
  have key : ∃ x n, v' = .tuple #[x, .int .i64 n, .bool (stageB p k).2] ∧ RdSl S2 4 (RdT S2) x (stageB p k).1 := by
    rcases hcase with ⟨hfl, x, f, n, hst, rfl, hx⟩ | ⟨hno, rfl⟩
    · rcases stage_eq p (k : Int) with ⟨h1, h2⟩ | ⟨h1, h2⟩
      · rw [Int.toNat_natCast, hst] at h1; cases h1
      · rw [Int.toNat_natCast, hst, Option.some.injEq] at h1
        have e : stageB p k = ((stS p (fuelR k) [] 0).1, true) := by
          rw [stageB, hfl, decide_eq_false (by omega), if_pos (by decide), if_pos h2]
        rw [e, ← h1]
        exact ⟨x, n, rfl, hx⟩
    · have e : stageB p k = ([], false) := by
        rcases hno with hno | hno
        · rw [stageB, hno, Bool.false_and, if_neg (by decide)]
        · rcases stage_eq p (k : Int) with ⟨h1, h2⟩ | ⟨h1, h2⟩
          · rw [stageB]
            split
            · rw [if_neg (by omega)]
            · rfl
          · rw [Int.toNat_natCast, hno] at h1; cases h1
      rw [e]
      exact ⟨_, 0, rfl, none, 0, rfl, Nat.le_refl _, Nat.zero_le _, .inl rfl⟩
  obtain ⟨x, n, rfl, hx⟩ := key
  have hsw := stageB_w (fun h => flatP_Pf h) (p := p) (k : Int)
  refine r_extract rfl ?_
  refine r_extract rfl ?_
  refine r_extract rfl ?_
  refine Run.call0E fn_i_ownList nm_i_ownList hI (ownList_calls hx (by omega)) fun v' I' S3 w' => ?_
  rintro ⟨rfl, L, rfl, hT⟩ hE2 hI
  have hI : Inv w [] (blks L) S3 w' := hI
  exact ⟨_, _, _, rfl, hI, hE.trans hE2, _, L, rfl, rfl, hT⟩
theorem i_LeastModel_calls {p : List C} {S : Store} {v : Value} (h : RdSl S 5 (RdC S) v p) (hw : wP p ≤ 1048576) :
    Tri Tryz.prog n_i_LeastModel [v] [] S (PostSB (stageB p 61).1 (stageB p 61).2) := by
  intro w hI
  have hI : Inv w [] [] S w := hI
  refine calls_i_LeastModel ?_
  unfold sh_i_LeastModel
  refine Run.call0E fn_i_StageModel nm_i_StageModel hI (i_StageModel_calls h hw 61 (by omega)) fun v' I' S2 w' => ?_
  rintro ⟨u, L, rfl, rfl, hT⟩ hE hI
  have hI : Inv w [] (blks L) S2 w' := hI
  refine r_extract rfl ?_
  refine r_extract rfl ?_
  exact ⟨_, _, _, rfl, hI, hE, _, L, rfl, rfl, hT⟩
theorem i_RoundsOf_calls {p : List C} {S : Store} {v : Value} (h : RdSl S 5 (RdC S) v p) (hw : wP p ≤ 1048576) : Tri Tryz.prog n_i_RoundsOf [v] [] S fun r I' _ => I' = [] ∧ r = .int .i64 (roundsB p) := by
  intro w hI
  have hI : Inv w [] [] S w := hI
  refine calls_i_RoundsOf ?_
  unfold sh_i_RoundsOf
  refine Run.call0E fn_i_stages nm_i_stages hI (i_stages_calls h hw 61 (by omega)) fun v' I' S2 w' => ?_
  rintro ⟨rfl, hcase⟩ hE hI
  have hI : Inv w [] [] S2 w' := hI
  rcases hcase with ⟨hfl, x, f, n, hst, rfl, hx⟩ | ⟨hno, rfl⟩
  · refine r_extract rfl ?_
    refine r_extract rfl ?_
    refine r_extract rfl ?_
    refine r_not ?_
    refine condV (fun hb => by cases hb) (fun _ => ?_)
    refine ⟨_, _, _, rfl, hI, hE, rfl, ?_⟩
    rcases stI_stS p 61 [] 0 (by simp) with ⟨h1, h2⟩ | ⟨h1, h2⟩
    · rw [hst] at h1; cases h1
    · rw [hst, Option.some.injEq] at h1
      rw [roundsB, if_pos hfl, if_pos h2, ← h1]
      rfl
  · refine r_extract rfl ?_
    refine r_extract rfl ?_
    refine r_extract rfl ?_
    refine r_not ?_
    refine condV (fun _ => ?_) (fun hb => by cases hb)
    refine ⟨_, _, _, rfl, hI, hE, rfl, ?_⟩
    rcases hno with hno | hno
    · rw [roundsB, if_neg (by rw [hno]; decide)]
    · rcases stI_stS p 61 [] 0 (by simp) with ⟨h1, h2⟩ | ⟨h1, h2⟩
      · rw [roundsB]
        split
        · rw [if_neg (by omega)]
        · rfl
      · rw [hno] at h1; cases h1
end

end Go.Proofs.YtgdibnmabnimaaaGreat

/- spec: rounds and stages. -/
namespace Go.Proofs.YtgdibnmabnimaaaGreat
open Go Go.RowKit
section
attribute [local irreducible] Run CondV GuardV LoadV
theorem l16Copy_calls {ts : List T} {S : Store} {v : Value} (h : RdSl S 4 (RdT S) v ts) (hw : ts.length + wL ts ≤ 1048576) : Tri Tryz.prog n_s_l16Copy [v] [] S (PostS 4 TrT S ts) := by
  intro w hI
  refine calls_s_l16Copy ?_
  unfold sh_s_l16Copy
  refine r_slice0 hI mk_SiTerm fun v0 w' hI => ?_
  refine ⟨fun i t w' => ∃ (k : Nat) (Ls : List Heaplet) (css : List (List Value)), k ≤ ts.length ∧ i = .int .i64 k ∧ Grown 4 TrT Ls css (ts.take k) ∧ Inv w [] (rowG t t_iTerm 4 css :: blks Ls.flatten) S w',
    fun i _ _ => ts.length - (intOf i).toNat, ⟨0, [], [], Nat.zero_le _, rfl, Grown.nil _ _, hI⟩, ?_⟩
  intro t4 _ _ t3 _ _ _ _ _ _ _ _ _ _ _ _ w'
  rintro ⟨k, Ls, css, hk, rfl, hg, hI⟩
  refine r_lenSl h sl_SiTerm ?_
  refine r_lss ?_
  refine condP (fun hki => ?_) (fun hki => ?_)
  · have hk' : k < ts.length := by omega
    have htl : (ts.take k).length = k := by simp; omega
    have hcl := hg.hc
    refine r_elem hI h sl_SiTerm ag_iTerm hk' (fun _ _ => RdT.length) fun cs hcs => ?_
    have hm := List.getElem_mem hk'
    have hwm := wL_mem hm
    refine Run.call0 fn_s_l1Copy nm_s_l1Copy hI (l1Copy_calls _ S cs hcs (by omega)) fun v' I' S' w' => ?_
    rintro ⟨rfl, cs', L, rfl, rfl, hT⟩ _ hI
    refine r_append1 hI 0 cs' mk_SiTerm (by omega) (by omega) rfl hT.length hT.one (by omega) (by omega) fun v' w' hI => ?_
    refine r_add (by omega) ?_
    refine ⟨⟨k + 1, Ls ++ [L], css ++ [cs'], hk', rfl, ?_, ?_⟩, by simp [intOf]; omega⟩
    · rw [List.take_succ_eq_append_getElem hk']
      exact hg.snoc hT hT.length
    · simp only [List.flatten_append, List.flatten_cons, List.flatten_nil, List.append_nil, blks_append]
      exact hI
  · have : k = ts.length := by omega
    subst this
    rw [List.take_length] at hg
    obtain ⟨L, hT, hI⟩ := Inv.rowTree (A := []) hI hg
    exact ⟨_, _, _, rfl, hI, Ext.refl _ _ _, rfl, _, rfl, hT⟩
theorem l16Round_calls {p : List C} {f : List T} {S : Store} {v u : Value} (h : RdSl S 5 (RdC S) v p) (hq : RdSl S 4 (RdT S) u f) (hp : Pf p) (hf : Fs f) (hl : f.length ≤ 61) :
    Tri Tryz.prog n_s_l16Round [v, u] [] S (PostL (roundS p f)) := by
  intro w hI
  have hlen := hp.len
  have hI : Inv w [] [] S w := hI
  refine calls_s_l16Round ?_
  unfold sh_s_l16Round
  refine ⟨fun i t w' => ∃ (j : Nat) (S' : Store), j ≤ p.length ∧ i = .int .i64 j ∧ Ext w.heap.size [] S S' ∧ RdSl S' 4 (RdT S') t ((follP (p.take j) f).foldl putC f) ∧ Inv w [] [] S' w',
    fun i _ _ => p.length - (intOf i).toNat, ⟨0, S, Nat.zero_le _, rfl, Ext.refl _ _ _, hq, hI⟩, ?_⟩
  intro t6 _ _ t5 t21 t20 t19 t18 t17 t16 t15 t14 _ _ _ _ w'
  rintro ⟨j, S', hj, rfl, hE, hout, hI⟩
  have h' := h.monoC hE.1
  have hq' := hq.monoT hE.1
  refine r_lenSl h' sl_SiClause ?_
  refine r_lss ?_
  refine condP (fun hji => ?_) (fun hji => ?_)
  · have hj' : j < p.length := by omega
    obtain ⟨hp1, hp2, hp3⟩ := hp.parts _ (List.getElem_mem hj')
    obtain ⟨out, ho⟩ : ∃ out, out = (follP (p.take j) f).foldl putC f := ⟨_, rfl⟩
    obtain ⟨l, hle⟩ : ∃ l, l = (follP (p.take (j + 1)) f).foldl putC f := ⟨_, rfl⟩
    have hbl : bodyS p[j].head f p[j].body out st0 = l := by
      rw [hle, follP_snoc p f j hj', List.foldl_append, ← ho, body_foll]
    have hFo := roundS_Fs (hp.take j) hf
    have hlo := roundS_len (p.take j) f hl
    have ho' : out = roundS (p.take j) f := ho
    rw [← ho'] at hFo hlo
    rw [← ho] at hout
    obtain ⟨b, o, cap, c, E, fz, rfl, hS, hR⟩ := h'.at_ hj'
    refine ⟨fun D x5 x21 x20 x19 x18 x17 x16 x15 x14 w_ => (D 0 = true → x14 = t5) ∧ (D 1 = true → x15 = .slice (some ⟨b, o, none⟩) p.length cap) ∧ (D 2 = true → x16 = .int .i64 j) ∧ (D 3 = true → x17 = .pointer (some ⟨b, o + j * 5, none⟩)) ∧ (D 4 = true → x18 = .agg (cellsAt c (o + j * 5) 5).toArray) ∧ (D 5 = true → x19 = u) ∧ (D 6 = true → True) ∧ (D 7 = true → True) ∧ (D 8 = true → True) ∧ ∃ SN, Ext w.heap.size [] S' SN ∧ (D 8 = true → D 0 = true) ∧ (D 8 = false → x5 = t5) ∧ (D 6 = true → IsKn SN x20 st0) ∧ (D 7 = true → RdSl SN 4 (RdT SN) x21 l) ∧ (D 8 = true → RdSl SN 4 (RdT SN) x5 l) ∧ Inv w [] [] SN w_, ⟨fun h => Bool.noConfusion h, fun h => Bool.noConfusion h, fun h => Bool.noConfusion h, fun h => Bool.noConfusion h, fun h => Bool.noConfusion h, fun h => Bool.noConfusion h, fun h => Bool.noConfusion h, fun h => Bool.noConfusion h, fun h => Bool.noConfusion h, ⟨S', Ext.refl _ _ _, fun h => Bool.noConfusion h, fun _ => rfl, fun h => Bool.noConfusion h, fun h => Bool.noConfusion h, fun h => Bool.noConfusion h, hI.draw⟩⟩, ⟨?_, ?_, ?_, ?_, ?_, ?_, ?_, ?_, ?_, trivial⟩, ?_⟩
    · intro D hD_  x5 x21 x20 x19 x18 x17 x16 x15 x14 w_
      rintro ⟨h0_, h1_, h2_, h3_, h4_, h5_, h6_, h7_, h8_, ⟨SN, hN, k8, e5, e6, e7, e8, hI⟩⟩
      have hx5 : x5 = t5 := e5 (by cases h : D 8 with | false => rfl | true => have := k8 h; rw [this] at hD_; exact hD_)
      have k8 := fun (_ : setD D 0 8 = true) => (rfl : setD D 0 0 = true)
      exact ⟨fun _ => by first | assumption | trivial, h1_, h2_, h3_, h4_, h5_, h6_, h7_, h8_, ⟨SN, hN, k8, e5, e6, e7, e8, hI⟩⟩
    · intro D hD_  x5 x21 x20 x19 x18 x17 x16 x15 x14 w_
      rintro ⟨h0_, h1_, h2_, h3_, h4_, h5_, h6_, h7_, h8_, ⟨SN, hN, k8, e5, e6, e7, e8, hI⟩⟩
      exact ⟨h0_, fun _ => rfl, h2_, h3_, h4_, h5_, h6_, h7_, h8_, ⟨SN, hN, k8, e5, e6, e7, e8, hI⟩⟩
    · intro D hD_  x5 x21 x20 x19 x18 x17 x16 x15 x14 w_
      rintro ⟨h0_, h1_, h2_, h3_, h4_, h5_, h6_, h7_, h8_, ⟨SN, hN, k8, e5, e6, e7, e8, hI⟩⟩
      exact ⟨h0_, h1_, fun _ => rfl, h3_, h4_, h5_, h6_, h7_, h8_, ⟨SN, hN, k8, e5, e6, e7, e8, hI⟩⟩
    · intro D hD_ d1_0 d2_1 x5 x21 x20 x19 x18 x17 x16 x15 x14 w_
      rintro ⟨h0_, h1_, h2_, h3_, h4_, h5_, h6_, h7_, h8_, ⟨SN, hN, k8, e5, e6, e7, e8, hI⟩⟩
      obtain rfl := h1_ d1_0
      obtain rfl := h2_ d2_1
      refine r_indexAddr sl_SiClause hj' ?_
      exact ⟨h0_, h1_, h2_, fun _ => rfl, h4_, h5_, h6_, h7_, h8_, ⟨SN, hN, k8, e5, e6, e7, e8, hI⟩⟩
    · intro D hD_ d3_0 x5 x21 x20 x19 x18 x17 x16 x15 x14 w_
      rintro ⟨h0_, h1_, h2_, h3_, h4_, h5_, h6_, h7_, h8_, ⟨SN, hN, k8, e5, e6, e7, e8, hI⟩⟩
      obtain rfl := h3_ d3_0
      refine r_loadA ag_iClause hR.length (fun j v hj => by rw [hI.cellS (hN.1 _ _ hS)]; exact cellsAt_get rfl j v hj) ?_
      exact ⟨h0_, h1_, h2_, h3_, fun _ => rfl, h5_, h6_, h7_, h8_, ⟨SN, hN, k8, e5, e6, e7, e8, hI⟩⟩
    · intro D hD_  x5 x21 x20 x19 x18 x17 x16 x15 x14 w_
      rintro ⟨h0_, h1_, h2_, h3_, h4_, h5_, h6_, h7_, h8_, ⟨SN, hN, k8, e5, e6, e7, e8, hI⟩⟩
      exact ⟨h0_, h1_, h2_, h3_, h4_, fun _ => rfl, h6_, h7_, h8_, ⟨SN, hN, k8, e5, e6, e7, e8, hI⟩⟩
    · intro D hD_  x5 x21 x20 x19 x18 x17 x16 x15 x14 w_
      rintro ⟨h0_, h1_, h2_, h3_, h4_, h5_, h6_, h7_, h8_, ⟨SN, hN, k8, e5, e6, e7, e8, hI⟩⟩
      refine r_makeSliceZ (n := 26) hI mk_SiTerm (by omega) (by omega) (by omega) fun kb w_ hI => ?_
      have hkc0 := noTable _ rfl SN
      obtain ⟨kc, hkce⟩ : ∃ kc, kc = (Array.range 104).map ((#[.int .i64 0, .int .i64 0, .string ⟨#[]⟩, .slice none 0 0] : Array Value)[· % (#[.int .i64 0, .int .i64 0, .string ⟨#[]⟩, .slice none 0 0] : Array Value).size]!) := ⟨_, rfl⟩
      rw [← hkce] at hkc0
      have hI : Inv w [] ([] ++ blks [(kb, .cells kc t_iTerm)]) SN w_ := by rw [hkce]; exact hI
      obtain ⟨SN, hI, hE2, hins⟩ := hI.pubExt
      have e7 := fun (e : setD D 6 7 = true) => (e7 e).monoT hE2.1
      have e8 := fun (e : setD D 6 8 = true) => (e8 e).monoT hE2.1
      have hN := hN.trans hE2
      have e6 := fun (_ : setD D 6 6 = true) => (⟨kb, 26, kc, rfl, Nat.le_refl _, by simp [maxLen], hins _ (List.mem_singleton.2 rfl), hkc0.mono hE2.1⟩ : IsKn SN (kvn kb 26) st0)
      exact ⟨h0_, h1_, h2_, h3_, h4_, h5_, fun _ => by first | assumption | trivial, h7_, h8_, ⟨SN, hN, k8, e5, e6, e7, e8, hI⟩⟩
    · intro D hD_ d0_0 d4_1 d5_2 d6_3 x5 x21 x20 x19 x18 x17 x16 x15 x14 w_
      rintro ⟨h0_, h1_, h2_, h3_, h4_, h5_, h6_, h7_, h8_, ⟨SN, hN, k8, e5, e6, e7, e8, hI⟩⟩
      have g0_ := h0_ d0_0
      obtain rfl := h4_ d4_1
      obtain rfl := h5_ d5_2
      have g6_ := h6_ d6_3
      refine Run.call0E fn_s_l16Body nm_s_l16Body hI (l16Body_calls p[j] f hp1 hf.fct hp2 p[j].body 0 (by simp) rfl SN _ _ _ _ out st0 (hR.mono hN.1) (by rw [g0_]; exact hout.monoT hN.1) (hq'.monoT hN.1) (e6 d6_3) st0_F hp3 hFo.okO (by omega)) fun v' I' SN w_ => ?_
      rw [hbl]
      rintro ⟨rfl, hr⟩ hE2 hI
      have e6 := fun (e : setD D 7 6 = true) => (e6 e).mono hE2.1
      have e8 := fun (e : setD D 7 8 = true) => (e8 e).monoT hE2.1
      have hN := hN.trans hE2
      have e7 := fun (_ : setD D 7 7 = true) => hr
      exact ⟨h0_, h1_, h2_, h3_, h4_, h5_, h6_, fun _ => by first | assumption | trivial, h8_, ⟨SN, hN, k8, e5, e6, e7, e8, hI⟩⟩
    · intro D hD_ d7_0 d7_1 d0_2 d1_3 d2_4 d3_5 d4_6 d5_7 d6_8 d7_9 x5 x21 x20 x19 x18 x17 x16 x15 x14 w_
      rintro ⟨h0_, h1_, h2_, h3_, h4_, h5_, h6_, h7_, h8_, ⟨SN, hN, k8, e5, e6, e7, e8, hI⟩⟩
      have g7_ := h7_ d7_0
      have k8 := fun (_ : setD D 8 8 = true) => d0_2
      have e5 := fun (h : setD D 8 8 = false) => (Bool.noConfusion h : x21 = t5)
      have e8 := fun (_ : setD D 8 8 = true) => e7 d7_0
      exact ⟨h0_, h1_, h2_, h3_, h4_, h5_, h6_, h7_, fun _ => by first | assumption | trivial, ⟨SN, hN, k8, e5, e6, e7, e8, hI⟩⟩
    intro D d8_ d7_ d6_ d5_ d4_ d3_ d2_ d1_ d0_ x5 x21 x20 x19 x18 x17 x16 x15 x14 w_
    rintro ⟨h0_, h1_, h2_, h3_, h4_, h5_, h6_, h7_, h8_, ⟨SN, hN, k8, e5, e6, e7, e8, hI⟩⟩
    have g8_ := h8_ d8_
    have g7_ := h7_ d7_
    have g6_ := h6_ d6_
    obtain rfl := h5_ d5_
    obtain rfl := h4_ d4_
    obtain rfl := h3_ d3_
    obtain rfl := h2_ d2_
    obtain rfl := h1_ d1_
    have g0_ := h0_ d0_
    clear h0_ h1_ h2_ h3_ h4_ h5_ h6_ h7_ h8_
    have hx := e8 d8_
    have hE2 := hE.trans hN
    clear e5 e6 e7 e8
    refine r_add (by omega) ?_
    rw [hle] at hx
    exact ⟨⟨j + 1, SN, hj', rfl, hE2, hx, hI⟩, by simp [intOf]; omega⟩
  · have : j = p.length := by omega
    subst this
    rw [List.take_length] at hout
    exact ⟨_, _, _, rfl, hI, hE, rfl, hout⟩
theorem l16Stage_calls {p : List C} {S : Store} {v : Value} (h : RdSl S 5 (RdC S) v p) (hp : Pf p) (k : Nat) (hk : k ≤ 61) :
    Tri Tryz.prog n_s_l16Stage [v, .int .i64 k] [] S fun r I' S' => I' = [] ∧ ∃ x, r = .tuple #[x, .int .i64 ((stS p k [] 0).2 : Nat)] ∧ RdSl S' 4 (RdT S') x (stS p k [] 0).1 := by
  intro w hI
  have hI : Inv w [] [] S w := hI
  refine calls_s_l16Stage ?_
  unfold sh_s_l16Stage
  refine r_slice0 hI mk_SiTerm fun v0 w' hI => ?_
  obtain ⟨S1, hE1, hrd, hI⟩ := Inv.lendExt (A := []) (css := []) hI
  have hr0 := RowRd.rows (Rows.nil 4 (RdT S1)) hrd
  refine ⟨fun i t w' => ∃ (n : Nat) (f : List T) (S' : Store), i = .int .i64 n ∧ n ≤ k ∧ RdSl S' 4 (RdT S') t f ∧ Fs f ∧ f.length ≤ 61 ∧ stS p (k - n) f n = stS p k [] 0 ∧ Ext w.heap.size [] S S' ∧ Inv w [] [] S' w',
    fun i _ _ => k - (intOf i).toNat, ⟨0, [], S1, rfl, Nat.zero_le _, hr0, Fs.nil, by simp, rfl, hE1, hI⟩, ?_⟩
  intro t7 _ _ t6 _ _ _ _ _ _ _ _ _ _ _ _ _ _ _ _ _ _ _ _ _ _ w'
  rintro ⟨n, f, S', rfl, hnk, hq, hF, hl, hst, hE, hI⟩
  refine r_lss ?_
  refine condP (fun hnk' => ?_) (fun hnk' => ?_)
  · have hnk2 : n < k := by omega
    rw [show k - n = (k - (n + 1)) + 1 by omega, stS] at hst
    refine Run.call0E fn_s_l16Round nm_s_l16Round hI (l16Round_calls (h.monoC hE.1) hq hp hF hl) fun x I' S2 w' => ?_
    rintro ⟨rfl, hx⟩ hE2 hI
    have hI : Inv w [] [] S2 w' := hI
    have hE3 := hE.trans hE2
    refine ⟨fun t w' => t = .bool (decide ((roundS p f).length = f.length ∨ 60 < f.length)) ∧ Inv w [] [] S2 w', ?_, ?_⟩
    · refine r_lenSl hx sl_SiTerm ?_
      refine r_lenSl (hq.monoT hE2.1) sl_SiTerm ?_
      refine r_eql ?_
      by_cases he : (roundS p f).length = f.length
      · rw [decide_eq_true (show (((roundS p f).length : Nat) : Int) = ((f.length : Nat) : Int) by omega)]
        repeat (first | refine guard_true ?_ | refine guard_ne (by decide) ?_ | refine guard_undef ?_ | refine r_pickT ?_ | refine r_pickF ?_)
        refine ⟨?_, hI⟩
        rw [decide_eq_true (Or.inl he)]
      · rw [decide_eq_false (show ¬ (((roundS p f).length : Nat) : Int) = ((f.length : Nat) : Int) by omega)]
        repeat (first | refine guard_true ?_ | refine guard_ne (by decide) ?_ | refine guard_undef ?_ | refine r_pickT ?_ | refine r_pickF ?_)
        refine r_lenSl (hq.monoT hE2.1) sl_SiTerm ?_
        refine r_gtr ?_
        repeat (first | refine guard_true ?_ | refine guard_ne (by decide) ?_ | refine guard_undef ?_ | refine r_pickT ?_ | refine r_pickF ?_)
        refine ⟨?_, hI⟩
        congr 1
        rw [Bool.eq_iff_iff, decide_eq_true_eq, decide_eq_true_eq]
        omega
    · intro t _ _ _ _ _ _ _ _ _ w'
      rintro ⟨rfl, hI⟩
      refine condP (fun hc => ?_) (fun hc => ?_)
      · rw [if_pos hc] at hst
        rw [← hst]
        exact ⟨_, _, _, rfl, hI, hE3, rfl, _, rfl, hq.monoT hE2.1⟩
      · rw [if_neg hc] at hst
        refine r_add (by omega) ?_
        exact ⟨⟨n + 1, _, S2, rfl, hnk2, hx, roundS_Fs hp hF, (roundS_len p f hl).2, hst, hE3, hI⟩, by simp [intOf]; omega⟩
  · have : n = k := by omega
    subst this
    rw [Nat.sub_self, stS] at hst
    rw [← hst]
    exact ⟨_, _, _, rfl, hI, hE, rfl, _, rfl, hq⟩
theorem s_StageModel_calls {p : List C} {S : Store} {v : Value} (h : RdSl S 5 (RdC S) v p) (hw : wP p ≤ 1048576) (r : Int) :
    Tri Tryz.prog n_s_StageModel [v, .int .i64 r] [] S (PostSB (stageB p r).1 (stageB p r).2) := by
  intro w hI
  have hI : Inv w [] [] S w := hI
  have hno : ∀ (S' : Store) (w' : World), Ext w.heap.size [] S S' → Inv w [] [] S' w' → Run Tryz.prog (sBuildSlice t_SiTerm 0 []) w' fun t w2 => ∃ v I' S', Ending.returned (.tuple #[t, .bool false]) = .returned v ∧ Inv w [] I' S' w2 ∧ Ext w.heap.size [] S S' ∧ PostSB [] false v I' S' := by
    intro S' w' hE hI
    refine r_slice0 hI mk_SiTerm fun v0 w' hI => ?_
    have hI : Inv w [] ([] ++ (rowG v0 t_iTerm 4 [] :: blks ([] : List Heaplet).flatten)) S' w' := hI
    obtain ⟨L, hT, hI⟩ := Inv.rowTree hI (Grown.nil 4 TrT)
    exact ⟨_, _, _, rfl, hI, hE, _, L, rfl, rfl, hT⟩
  refine calls_s_StageModel ?_
  unfold sh_s_StageModel
  refine ⟨fun t w' => t = .bool (!(flatP p && !decide (r < 0))) ∧ Inv w [] [] S w', ?_, ?_⟩
  · refine Run.callPure fn_s_FlatProgram nm_s_FlatProgram hI (sFlatProgram_calls h hw) fun w' hI => ?_
    refine r_not ?_
    cases hv : flatP p
    · repeat (first | refine guard_true ?_ | refine guard_ne (by decide) ?_ | refine guard_undef ?_ | refine r_pickT ?_ | refine r_pickF ?_)
      exact ⟨rfl, hI⟩
    · repeat (first | refine guard_true ?_ | refine guard_ne (by decide) ?_ | refine guard_undef ?_ | refine r_pickT ?_ | refine r_pickF ?_)
      refine r_lss ?_
      repeat (first | refine guard_true ?_ | refine guard_ne (by decide) ?_ | refine guard_undef ?_ | refine r_pickT ?_ | refine r_pickF ?_)
      refine ⟨?_, hI⟩
      rw [Bool.true_and, Bool.not_not]
  intro t _ _ _ _ _ _ w'
  rintro ⟨rfl, hI⟩
  refine condV (fun hb => ?_) (fun hb => ?_)
  · have hb' : (flatP p && !decide (r < 0)) = false := by rwa [Bool.not_eq_true'] at hb
    have e : stageB p r = ([], false) := by rw [stageB, if_neg (by rw [hb']; decide)]
    rw [e]
    exact hno _ _ (Ext.refl _ _ _) hI
  have hb' : (flatP p && !decide (r < 0)) = true := by rwa [Bool.not_eq_false'] at hb
  have hb2 := hb'
  rw [Bool.and_eq_true] at hb2
  have hr0 : 0 ≤ r := by
    have := hb2.2
    simp at this
    exact this
  have hp := flatP_Pf hb2.1
  have hfu : fuelR r ≤ 61 := by unfold fuelR; split <;> omega
  have hsF := stS_Fs hp (fuelR r) [] 0 Fs.nil (by simp)
  refine ⟨fun t w' => t = .int .i64 (fuelR r) ∧ Inv w [] [] S w', ?_, ?_⟩
  · refine r_gtr ?_
    refine condP (fun hg => ⟨?_, hI⟩) (fun hg => ⟨?_, hI⟩)
    · rw [fuelR, if_pos hg]; rfl
    · rw [fuelR, if_neg hg, Int.toNat_of_nonneg hr0]
  intro t _ _ w'
  rintro ⟨rfl, hI⟩
  refine Run.call0E fn_s_l16Stage nm_s_l16Stage hI (l16Stage_calls h hp (fuelR r) hfu) fun v' I' S2 w' => ?_
  rintro ⟨rfl, x, rfl, hx⟩ hE hI
  have hI : Inv w [] [] S2 w' := hI
  refine r_extract rfl ?_
  refine r_extract rfl ?_
  refine r_lenSl hx sl_SiTerm ?_
  refine r_gtr ?_
  refine condP (fun hg => ?_) (fun hg => ?_)
  · have e : stageB p r = ([], false) := by rw [stageB, if_pos hb', if_neg (by omega)]
    rw [e]
    exact hno _ _ hE hI
  · have e : stageB p r = ((stS p (fuelR r) [] 0).1, true) := by rw [stageB, if_pos hb', if_pos (by omega)]
    have hw' := hsF.1.w
    rw [e]
    refine Run.call0E fn_s_l16Copy nm_s_l16Copy hI (l16Copy_calls hx (by omega)) fun v' I' S3 w' => ?_
    rintro ⟨rfl, L, rfl, hT⟩ hE2 hI
    have hI : Inv w [] (blks L) S3 w' := hI
    exact ⟨_, _, _, rfl, hI, hE.trans hE2, _, L, rfl, rfl, hT⟩
theorem s_LeastModel_calls {p : List C} {S : Store} {v : Value} (h : RdSl S 5 (RdC S) v p) (hw : wP p ≤ 1048576) :
    Tri Tryz.prog n_s_LeastModel [v] [] S (PostSB (stageB p 61).1 (stageB p 61).2) := by
  intro w hI
  have hI : Inv w [] [] S w := hI
  refine calls_s_LeastModel ?_
  unfold sh_s_LeastModel
  refine Run.call0E fn_s_StageModel nm_s_StageModel hI (s_StageModel_calls h hw 61) fun v' I' S2 w' => ?_
  rintro ⟨u, L, rfl, rfl, hT⟩ hE hI
  have hI : Inv w [] (blks L) S2 w' := hI
  refine r_extract rfl ?_
  refine r_extract rfl ?_
  exact ⟨_, _, _, rfl, hI, hE, _, L, rfl, rfl, hT⟩
theorem s_RoundsOf_calls {p : List C} {S : Store} {v : Value} (h : RdSl S 5 (RdC S) v p) (hw : wP p ≤ 1048576) : Tri Tryz.prog n_s_RoundsOf [v] [] S fun r I' _ => I' = [] ∧ r = .int .i64 (roundsB p) := by
  intro w hI
  have hI : Inv w [] [] S w := hI
  refine calls_s_RoundsOf ?_
  unfold sh_s_RoundsOf
  refine Run.callPure fn_s_FlatProgram nm_s_FlatProgram hI (sFlatProgram_calls h hw) fun w' hI => ?_
  refine r_not ?_
  refine condV (fun hb => ?_) (fun hb => ?_)
  · have hb' : flatP p = false := by simpa using hb
    exact ⟨_, _, _, rfl, hI, Ext.refl _ _ _, rfl, by rw [roundsB, if_neg (by rw [hb']; decide)]⟩
  have hb' : flatP p = true := by simpa using hb
  have hp := flatP_Pf hb'
  refine Run.call0E fn_s_l16Stage nm_s_l16Stage hI (l16Stage_calls h hp 61 (Nat.le_refl _)) fun v' I' S2 w' => ?_
  rintro ⟨rfl, x, rfl, hx⟩ hE hI
  have hI : Inv w [] [] S2 w' := hI
  refine r_extract rfl ?_
  refine r_extract rfl ?_
  refine r_lenSl hx sl_SiTerm ?_
  refine r_gtr ?_
  refine condP (fun hg => ?_) (fun hg => ?_)
  · exact ⟨_, _, _, rfl, hI, hE, rfl, by rw [roundsB, if_pos hb', if_neg (by omega)]⟩
  · exact ⟨_, _, _, rfl, hI, hE, rfl, by rw [roundsB, if_pos hb', if_pos (by omega)]; rfl⟩
end

end Go.Proofs.YtgdibnmabnimaaaGreat

/- FnExactStageModel returns true, whatever program and number of rounds come in. -/
namespace Go.Proofs.YtgdibnmabnimaaaGreat
open Go Go.RowKit
theorem wf_i64 {n : Int} (h : (Lit.int .i64 n).wf = true) : n ≤ 9223372036854775807 := by
  simp [Lit.wf, IntKind.max, IntKind.signed, IntKind.bits] at h
  omega
section
variable {w w0 : World} {X : List Nat} {L : List Item} {S : Store} {K : Value → World → Prop}
attribute [local irreducible] Run CondV GuardV LoadV
theorem Run.pubTreeB {f : FuncId} {fn : Func} {args : List Value} {ys : List T} {b : Bool} (hf : Tryz.prog.funcs[f]? = some fn) (hn : (fn.name == "runtime.NumGoroutine" || fn.body.isNone) = false) (hI : Inv w0 X L S w)
    (hc : Tri Tryz.prog f args [] S (PostSB ys b)) (hk : ∀ u S' w', Sle S S' → RdSl S' 4 (RdT S') u ys → Inv w0 X L S' w' → K (.tuple #[u, .bool b]) w') : Run Tryz.prog (sCall (.func (.func f) #[] #[]) args) w K := by
  refine Run.call0 hf hn hI hc fun v' I' S' w' => ?_
  rintro ⟨u, M, rfl, rfl, hT⟩ hle hI
  obtain ⟨S1, hle1, hins, hI, _⟩ := Inv.lendAll M hI
  exact hk _ _ _ (hle.trans hle1) (hT.rd hins fun _ _ _ hi h => h.rd hi) hI
end
section
attribute [local irreducible] Run CondV GuardV LoadV
theorem lawStage_calls {p : List C} {S : Store} {v : Value} (r : Int) (hr : r ≤ 9223372036854775807) (h : RdSl S 5 (RdC S) v p) : Pure Tryz.prog n_l_FnExactStageModel [v, .int .i64 r] S (.bool true) := by
  intro w hI
  refine calls_l_FnExactStageModel ?_
  unfold sh_l_FnExactStageModel
  refine Run.callPure fn_l_szClauseS nm_l_szClauseS hI (szClauseS_calls h (by omega) (by omega)) fun w' hI => ?_
  refine r_lss ?_
  refine condP (fun _ => done hI rfl) (fun hsz => ?_)
  have hw := sz_wPs (p := p) (left := 1048576) (by omega)
  have hw : p.length + wP p ≤ 1048576 := by omega
  have hcn := cntP_wP p
  have hcp := cntP_pos p
  have hll := stageB_w (fun h => flatP_Pf h) (p := p) (r)
  have hln := cnt_wL (stageB p (r)).1
  have hlp := cntL_pos (stageB p (r)).1
  have hs : ∀ {S : Store} {v : Value}, RdSl S 5 (RdC S) v p → Tri Tryz.prog n_s_StageModel [v, .int .i64 r] [] S (PostSB (stageB p (r)).1 (stageB p (r)).2) := fun a => s_StageModel_calls a (by omega) r
  have hi : ∀ {S : Store} {v : Value}, RdSl S 5 (RdC S) v p → Tri Tryz.prog n_i_StageModel [v, .int .i64 r] [] S (PostSB (stageB p (r)).1 (stageB p (r)).2) := fun a => i_StageModel_calls a (by omega) r hr
  generalize (stageB p (r)).2 = ok at hs hi
  generalize (stageB p (r)).1 = l at hs hi hll hln hlp
  refine Run.toClauseS hI h hw fun v1 S1 w' hle1 h1 hI => ?_
  refine Run.pubTreeB fn_s_StageModel nm_s_StageModel hI (hs h1) fun v2 S2 w' hle2 h2 hI => ?_
  have hle := hle1.trans hle2
  refine r_extract rfl ?_
  refine r_extract rfl ?_
  refine Run.toClauseM hI (h.monoC hle) hw fun v3 M S3 w' hle3 h3 hT hI hback => ?_
  refine Run.call0 fn_i_StageModel nm_i_StageModel hI (hi h3) fun v4 I' S4 w' => ?_
  rintro ⟨g, G, rfl, rfl, hG⟩ hle4 hI
  refine r_extract rfl ?_
  refine r_extract rfl ?_
  refine ⟨fun t w' => t = .bool false ∧ Inv w [] ([] ++ blks G) S4 w', ?_, ?_⟩
  · refine Run.eqTreeT (A := []) hI hG (h2.monoT (hle3.trans hle4)) fun w' hI => ?_
    refine r_not ?_
    repeat (first | refine guard_true ?_ | refine guard_ne (by decide) ?_ | refine guard_undef ?_ | refine r_pickT ?_ | refine r_pickF ?_)
    refine r_bneq un_bool ?_
    repeat (first | refine guard_true ?_ | refine guard_ne (by decide) ?_ | refine guard_undef ?_ | refine r_pickT ?_ | refine r_pickF ?_)
    exact ⟨by simp, hI⟩
  intro t _ _ _ _ _ _ _ _ w'
  rintro ⟨rfl, hI⟩
  refine condV (fun hb => by cases hb) (fun _ => ?_)
  refine Run.toClauseS hI (h.monoC (hle.trans (hle3.trans hle4))) hw fun v5 S5 w' hle5 h5 hI => ?_
  refine Run.callPure fn_l_eqClauseS nm_l_eqClauseS hI (eqClauseS_calls ((h3.monoC hle4).monoC hle5) h5) fun w' hI => ?_
  refine r_not ?_
  rw [(eqP_iff p p).2 rfl]
  refine condV (fun hb => by simp at hb) (fun _ => ?_)
  have hI := hback _ _ (hI.less (hle4.trans hle5))
  refine Run.markP hI hT (by omega) (by omega) fun w' hI => ?_
  refine ⟨fun t w' => t = .bool false ∧ Inv w [] ([] ++ blks G) S2 w', ?_, ?_⟩
  · refine r_lss ?_
    rw [decide_eq_false (by omega)]
    repeat (first | refine guard_true ?_ | refine guard_ne (by decide) ?_ | refine guard_undef ?_ | refine r_pickT ?_ | refine r_pickF ?_)
    refine Run.eqTreeT (A := []) hI hG h2 fun w' hI => ?_
    refine r_not ?_
    repeat (first | refine guard_true ?_ | refine guard_ne (by decide) ?_ | refine guard_undef ?_ | refine r_pickT ?_ | refine r_pickF ?_)
    refine r_bneq un_bool ?_
    repeat (first | refine guard_true ?_ | refine guard_ne (by decide) ?_ | refine guard_undef ?_ | refine r_pickT ?_ | refine r_pickF ?_)
    exact ⟨by simp, hI⟩
  intro t _ _ _ _ _ _ _ _ _ _ _ _ w'
  rintro ⟨rfl, hI⟩
  refine condV (fun hb => by cases hb) (fun _ => ?_)
  refine Run.markTreeT hI hG (by omega) (by omega) fun G' w' hG' hI => ?_
  refine Run.heldTreeT hI hG' (by omega) (by omega) fun w' hI => ?_
  refine r_lss ?_
  refine condP (fun hb => by omega) (fun _ => ?_)
  refine r_neq ?_
  refine condV (fun hb => by simp at hb) (fun _ => ?_)
  refine Run.toClauseS hI (h.monoC hle) hw fun v6 S6 w' hle6 h6 hI => ?_
  refine Run.pubTreeB fn_i_StageModel nm_i_StageModel hI (hi h6) fun v7 S7 w' hle7 h7 hI => ?_
  refine r_extract rfl ?_
  refine r_extract rfl ?_
  refine ⟨fun t w' => t = .bool false ∧ Inv w [] ([] ++ blks G') S7 w', ?_, ?_⟩
  · refine Run.callPure fn_l_eqTermS nm_l_eqTermS hI (eqTermS_calls h7 (h2.monoT (hle6.trans hle7))) fun w' hI => ?_
    rw [(eqL_iff l l).2 rfl]
    refine r_not ?_
    repeat (first | refine guard_true ?_ | refine guard_ne (by decide) ?_ | refine guard_undef ?_ | refine r_pickT ?_ | refine r_pickF ?_)
    refine r_bneq un_bool ?_
    repeat (first | refine guard_true ?_ | refine guard_ne (by decide) ?_ | refine guard_undef ?_ | refine r_pickT ?_ | refine r_pickF ?_)
    exact ⟨by simp, hI⟩
  intro t _ _ _ _ _ _ _ _ w'
  rintro ⟨rfl, hI⟩
  refine condV (fun hb => by cases hb) (fun _ => ?_)
  refine Run.heldTreeT hI hG' (by omega) (by omega) fun w' hI => ?_
  refine r_lss ?_
  refine condP (fun hb => by omega) (fun _ => ?_)
  refine r_neq ?_
  have hle := hle.trans (hle6.trans hle7)
  exact condV (fun hb => by simp at hb) (fun _ => doneS hI hle rfl)
end

end Go.Proofs.YtgdibnmabnimaaaGreat

/- FnExactLeastModel returns true, whatever program comes in. -/
namespace Go.Proofs.YtgdibnmabnimaaaGreat
open Go Go.RowKit
section
attribute [local irreducible] Run CondV GuardV LoadV
theorem lawLeast_calls {p : List C} {S : Store} {v : Value} (h : RdSl S 5 (RdC S) v p) : Pure Tryz.prog n_l_FnExactLeastModel [v] S (.bool true) := by
  intro w hI
  refine calls_l_FnExactLeastModel ?_
  unfold sh_l_FnExactLeastModel
  refine Run.callPure fn_l_szClauseS nm_l_szClauseS hI (szClauseS_calls h (by omega) (by omega)) fun w' hI => ?_
  refine r_lss ?_
  refine condP (fun _ => done hI rfl) (fun hsz => ?_)
  have hw := sz_wPs (p := p) (left := 1048576) (by omega)
  have hw : p.length + wP p ≤ 1048576 := by omega
  have hcn := cntP_wP p
  have hcp := cntP_pos p
  have hll := stageB_w (fun h => flatP_Pf h) (p := p) (61)
  have hln := cnt_wL (stageB p (61)).1
  have hlp := cntL_pos (stageB p (61)).1
  have hs : ∀ {S : Store} {v : Value}, RdSl S 5 (RdC S) v p → Tri Tryz.prog n_s_LeastModel [v] [] S (PostSB (stageB p (61)).1 (stageB p (61)).2) := fun a => s_LeastModel_calls a (by omega)
  have hi : ∀ {S : Store} {v : Value}, RdSl S 5 (RdC S) v p → Tri Tryz.prog n_i_LeastModel [v] [] S (PostSB (stageB p (61)).1 (stageB p (61)).2) := fun a => i_LeastModel_calls a (by omega)
  generalize (stageB p (61)).2 = ok at hs hi
  generalize (stageB p (61)).1 = l at hs hi hll hln hlp
  refine Run.toClauseS hI h hw fun v1 S1 w' hle1 h1 hI => ?_
  refine Run.pubTreeB fn_s_LeastModel nm_s_LeastModel hI (hs h1) fun v2 S2 w' hle2 h2 hI => ?_
  have hle := hle1.trans hle2
  refine r_extract rfl ?_
  refine r_extract rfl ?_
  refine Run.toClauseM hI (h.monoC hle) hw fun v3 M S3 w' hle3 h3 hT hI hback => ?_
  refine Run.call0 fn_i_LeastModel nm_i_LeastModel hI (hi h3) fun v4 I' S4 w' => ?_
  rintro ⟨g, G, rfl, rfl, hG⟩ hle4 hI
  refine r_extract rfl ?_
  refine r_extract rfl ?_
  refine ⟨fun t w' => t = .bool false ∧ Inv w [] ([] ++ blks G) S4 w', ?_, ?_⟩
  · refine Run.eqTreeT (A := []) hI hG (h2.monoT (hle3.trans hle4)) fun w' hI => ?_
    refine r_not ?_
    repeat (first | refine guard_true ?_ | refine guard_ne (by decide) ?_ | refine guard_undef ?_ | refine r_pickT ?_ | refine r_pickF ?_)
    refine r_bneq un_bool ?_
    repeat (first | refine guard_true ?_ | refine guard_ne (by decide) ?_ | refine guard_undef ?_ | refine r_pickT ?_ | refine r_pickF ?_)
    exact ⟨by simp, hI⟩
  intro t _ _ _ _ _ _ _ _ w'
  rintro ⟨rfl, hI⟩
  refine condV (fun hb => by cases hb) (fun _ => ?_)
  refine Run.toClauseS hI (h.monoC (hle.trans (hle3.trans hle4))) hw fun v5 S5 w' hle5 h5 hI => ?_
  refine Run.callPure fn_l_eqClauseS nm_l_eqClauseS hI (eqClauseS_calls ((h3.monoC hle4).monoC hle5) h5) fun w' hI => ?_
  refine r_not ?_
  rw [(eqP_iff p p).2 rfl]
  refine condV (fun hb => by simp at hb) (fun _ => ?_)
  have hI := hback _ _ (hI.less (hle4.trans hle5))
  refine Run.markP hI hT (by omega) (by omega) fun w' hI => ?_
  refine ⟨fun t w' => t = .bool false ∧ Inv w [] ([] ++ blks G) S2 w', ?_, ?_⟩
  · refine r_lss ?_
    rw [decide_eq_false (by omega)]
    repeat (first | refine guard_true ?_ | refine guard_ne (by decide) ?_ | refine guard_undef ?_ | refine r_pickT ?_ | refine r_pickF ?_)
    refine Run.eqTreeT (A := []) hI hG h2 fun w' hI => ?_
    refine r_not ?_
    repeat (first | refine guard_true ?_ | refine guard_ne (by decide) ?_ | refine guard_undef ?_ | refine r_pickT ?_ | refine r_pickF ?_)
    refine r_bneq un_bool ?_
    repeat (first | refine guard_true ?_ | refine guard_ne (by decide) ?_ | refine guard_undef ?_ | refine r_pickT ?_ | refine r_pickF ?_)
    exact ⟨by simp, hI⟩
  intro t _ _ _ _ _ _ _ _ _ _ _ _ w'
  rintro ⟨rfl, hI⟩
  refine condV (fun hb => by cases hb) (fun _ => ?_)
  refine Run.markTreeT hI hG (by omega) (by omega) fun G' w' hG' hI => ?_
  refine Run.heldTreeT hI hG' (by omega) (by omega) fun w' hI => ?_
  refine r_lss ?_
  refine condP (fun hb => by omega) (fun _ => ?_)
  refine r_neq ?_
  refine condV (fun hb => by simp at hb) (fun _ => ?_)
  refine Run.toClauseS hI (h.monoC hle) hw fun v6 S6 w' hle6 h6 hI => ?_
  refine Run.pubTreeB fn_i_LeastModel nm_i_LeastModel hI (hi h6) fun v7 S7 w' hle7 h7 hI => ?_
  refine r_extract rfl ?_
  refine r_extract rfl ?_
  refine ⟨fun t w' => t = .bool false ∧ Inv w [] ([] ++ blks G') S7 w', ?_, ?_⟩
  · refine Run.callPure fn_l_eqTermS nm_l_eqTermS hI (eqTermS_calls h7 (h2.monoT (hle6.trans hle7))) fun w' hI => ?_
    rw [(eqL_iff l l).2 rfl]
    refine r_not ?_
    repeat (first | refine guard_true ?_ | refine guard_ne (by decide) ?_ | refine guard_undef ?_ | refine r_pickT ?_ | refine r_pickF ?_)
    refine r_bneq un_bool ?_
    repeat (first | refine guard_true ?_ | refine guard_ne (by decide) ?_ | refine guard_undef ?_ | refine r_pickT ?_ | refine r_pickF ?_)
    exact ⟨by simp, hI⟩
  intro t _ _ _ _ _ _ _ _ w'
  rintro ⟨rfl, hI⟩
  refine condV (fun hb => by cases hb) (fun _ => ?_)
  refine Run.heldTreeT hI hG' (by omega) (by omega) fun w' hI => ?_
  refine r_lss ?_
  refine condP (fun hb => by omega) (fun _ => ?_)
  refine r_neq ?_
  have hle := hle.trans (hle6.trans hle7)
  exact condV (fun hb => by simp at hb) (fun _ => doneS hI hle rfl)
end

end Go.Proofs.YtgdibnmabnimaaaGreat

/- What every row of this seat owes beside its walk: the arguments read again as they did, and nothing that was there has turned. -/
namespace Go.Proofs.YtgdibnmabnimaaaGreat
open Go Go.ChangeShapes Go.WideShapes Go.ChangeAt Go.RowKit

theorem Tryz.own : ownKnob Tryz.prog.godebug = none := by kernel_rfl
theorem Tryz.kids : Kids Tryz.prog (· < Tryz.prog.types.size) := kids_rows (by kernel_rfl) (by kernel_rfl)
theorem Tryz.full : ∀ t e, t < Tryz.prog.types.size → Tryz.prog.underlying t = some (.slice e) → 0 < Tryz.prog.cellsOf e := slices_full_of Tryz.prog (by kernel_rfl)
section
variable {H : Type} {enc : TypeId × Value → H} {W W' : World}
theorem carryAll {P : Program} : ∀ {ts : List TypeId} {vs : List Value} {ds : List (DataW H)} {ps : List MemPlace}, DataW.TrodAll enc P W 0 (fun _ => true) true ts vs ds ps → (∀ p ∈ ps, W.sameAt W' p) →
    DataW.TrodAll enc P W' 0 (fun _ => true) true ts vs ds ps
  | [], [], [], _, h, _ => h
  | _ :: _, _ :: _, _ :: _, _, ⟨p, q, ⟨n, h1⟩, h2, e⟩, hs =>
    ⟨p, q, ⟨n, DataW.trod_carry n _ _ _ h1 fun x hx => hs x (by rw [e]; exact List.mem_append_left _ hx)⟩, carryAll h2 fun x hx => hs x (by rw [e]; exact List.mem_append_right _ hx), e⟩
theorem same_at {p : MemPlace} (h : ∀ b, b < W.heap.size → W'.heap[b]? = W.heap[b]?) (hp : p.block < W.heap.size) : W.sameAt W' p := by
  cases p with
  | cell b off => simp only [World.sameAt, World.cell?]; rw [h b hp]
  | map b => exact h b hp
/- a function of the program whose walk ends with 'true' and with all that was there as it was: the row's 'post' -/
theorem post_true {f : Func} {s : ChangeSpec} {args : Array Value} {ds gs : List (DataW H)} {before p q : List MemPlace}
    (hW : DataW.Whole enc Tryz.prog f.params.toList s.vars false W args.toList ds gs before) (hA : DataW.TrodAll enc Tryz.prog W 0 (fun _ => true) true f.params.toList args.toList ds p)
    (hV : DataW.TrodVars enc Tryz.prog W (fun _ => true) s.vars gs q) (hb : before = p ++ q) (hv : s.vars = []) (hts : ∀ t ∈ f.params.toList, t < Tryz.prog.types.size) (hr : f.resultTypes = #[t_bool])
    (hs : (s.fn H (ds ++ gs)).results = [.lit (.bool true)]) (ha : (s.fn H (ds ++ gs)).args = ds) (hsv : (s.fn H (ds ++ gs)).vars = []) (hI : Inv W [] [] (heapS W) W') :
    s.post enc Tryz.prog f false true false false W args (.bool true) W' := by
  have hsame : ∀ b, b < W.heap.size → W'.heap[b]? = W.heap[b]? := fun b hb => hI.same b hb
  have hlt := hW.lt
  rw [hv] at hV
  obtain ⟨hg, hq⟩ := trodVars_none hV
  subst hq
  rw [List.append_nil] at hb
  subst hb
  have hA' := carryAll (W' := W') hA fun x hx => same_at hsame (hlt x hx)
  refine ⟨ds, gs, before, [], before, [], hW, ?_, ?_, ?_, same_kept hI.os hI.output hsame, fun h => by cases h⟩
  · rw [hs, hr]
    exact trodAll_mk1 (shut_bool un_bool true)
  · rw [ha]
    exact DataW.TrodAll.respare Tryz.kids Tryz.full hts hA' fun x hx => by simpa using hlt x hx
  · rw [hv, hsv]
    rfl
end

end Go.Proofs.YtgdibnmabnimaaaGreat
