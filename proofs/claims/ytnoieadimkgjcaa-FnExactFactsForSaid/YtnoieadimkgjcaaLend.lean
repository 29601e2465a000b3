/- A row of a function's own, handed to a function that only reads; rows of numbers. -/
import Derived.Test.YtnoieadimkgjcaaGoals
namespace Go.Proofs.Ytnoieadimkgjcaa
open Go Go.RowKit
attribute [local irreducible] Run CondV GuardV LoadV

def RowRd (S : Store) (v : Value) (e : TypeId) (k n : Nat) (xs : List Value) : Prop :=
  xs.length = n * k ∧ ((v = .slice none 0 0 ∧ n = 0) ∨ ∃ g cap cur, v = .slice (some ⟨g, 0, none⟩) n cap ∧ S g = some (.cells cur e) ∧ n ≤ cap ∧ cap ≤ maxLen ∧ cur.size = cap * k ∧ cur.toList.take (n * k) = xs)
theorem Inv.lend {w0 w : World} {X : List Nat} {A : List Item} {S : Store} {v : Value} {e : TypeId} {k n : Nat} {xs : List Value} (h : Inv w0 X (A ++ [.row v e k n xs]) S w) :
    ∃ S', Sle S S' ∧ RowRd S' v e k n xs ∧ Inv w0 X A S' w ∧ ∀ B w', Inv w0 X B S' w' → Inv w0 X (B ++ [.row v e k n xs]) S w' := by
  have hm : w.ownsRow 0 e k v n xs := h.its (.row v e k n xs) (by simp)
  obtain ⟨hl, hm⟩ := hm
  rcases hm with ⟨rfl, rfl⟩ | ⟨g, cap, cur, rfl, _, hg, hnc, hcm, hcs, ht⟩
  · have : xs = [] := List.eq_nil_of_length_eq_zero (by rw [hl, Nat.zero_mul])
    subst this
    exact ⟨S, Sle.refl S, ⟨hl, .inl ⟨rfl, rfl⟩⟩, h.sub (List.sublist_append_left _ _), fun B w' hB => hB.rowNil e k⟩
  · have hf : feet (A ++ [Item.blk g (.cells cur e)]) = feet (A ++ [Item.row (.slice (some ⟨g, 0, none⟩) n cap) e k n xs]) := by
      simp [feet, Item.foot, Value.ownBlock]
    have hg' : g ∈ feet (A ++ [Item.row (.slice (some ⟨g, 0, none⟩) n cap) e k n xs]) := by simp [feet, Item.foot, Value.ownBlock]
    have h' : Inv w0 X (A ++ [Item.blk g (.cells cur e)]) S w := by
      refine ⟨h.size, h.os, h.tape, h.output, h.old, fun it hit => ?_, by rw [hf]; exact h.nd, by rw [hf]; exact h.new, by rw [hf]; exact h.pub⟩
      rcases List.mem_append.1 hit with hit | hit
      · exact h.its it (List.mem_append_left _ hit)
      · simp at hit
        subst hit
        exact hg
    obtain ⟨h1, h2⟩ := h'.publishLast
    refine ⟨addS S g (.cells cur e), h2, ⟨hl, .inr ⟨g, cap, cur, rfl, by simp [addS], hnc, hcm, hcs, ht⟩⟩, h1, fun B w' hB => ?_⟩
    have hpg := hB.pub g (.cells cur e) (by simp [addS])
    have hfB : feet (B ++ [Item.row (.slice (some ⟨g, 0, none⟩) n cap) e k n xs]) = feet B ++ [g] := by simp [feet, Item.foot, Value.ownBlock]
    refine ⟨hB.size, hB.os, hB.tape, hB.output, hB.old, fun it hit => ?_, ?_, ?_, ?_⟩
    · rcases List.mem_append.1 hit with hit | hit
      · exact hB.its it hit
      · simp at hit
        subst hit
        exact ⟨hl, .inr ⟨g, cap, cur, rfl, Nat.zero_le _, hpg.1, hnc, hcm, hcs, ht⟩⟩
    · rw [hfB, List.nodup_append]
      refine ⟨hB.nd, by simp, fun a ha b hb => ?_⟩
      simp at hb
      subst hb
      intro e'
      subst e'
      exact hpg.2 ha
    · intro c hc
      rw [hfB] at hc
      rcases List.mem_append.1 hc with hc | hc
      · exact hB.new c hc
      · simp at hc
        subst hc
        exact h.new _ hg'
    · intro c o hc
      have hne : c ≠ g := fun e' => by
        subst e'
        exact (h.pub c o hc).2 hg'
      have := hB.pub c o (by simp only [addS]; rw [if_neg hne]; exact hc)
      refine ⟨this.1, ?_⟩
      rw [hfB]
      intro hc'
      rcases List.mem_append.1 hc' with hc' | hc'
      · exact this.2 hc'
      · simp at hc'
        exact hne hc'
theorem flat_at {α : Type} (f : α → List Value) (k : Nat) (hf : ∀ y, (f y).length = k) : ∀ (ys : List α) (i : Nat) (h : i < ys.length), ((ys.flatMap f).drop (i * k)).take k = f ys[i]
  | [], i, h => by simp at h
  | y :: ys, 0, h => by
    rw [List.flatMap_cons, Nat.zero_mul, List.drop_zero, List.take_append_of_le_length (by rw [hf]; exact Nat.le_refl _), List.take_of_length_le (by rw [hf]; exact Nat.le_refl _)]
    rfl
  | y :: ys, i + 1, h => by
    rw [List.flatMap_cons, Nat.succ_mul, Nat.add_comm, ← List.drop_drop, List.drop_left' (hf y)]
    exact flat_at f k hf ys i (by simpa using h)
theorem flat_len {α : Type} (f : α → List Value) (k : Nat) (hf : ∀ y, (f y).length = k) : ∀ ys : List α, (ys.flatMap f).length = ys.length * k
  | [] => by simp
  | y :: ys => by rw [List.flatMap_cons, List.length_append, hf, flat_len f k hf ys, List.length_cons, Nat.succ_mul, Nat.add_comm]
theorem RowRd.rd {α : Type} {S : Store} {v : Value} {e : TypeId} {k : Nat} {f : α → List Value} {R : List Value → α → Prop} {ys : List α} (hf : ∀ y, (f y).length = k) (hR : ∀ y ∈ ys, R (f y) y)
    (h : RowRd S v e k ys.length (ys.flatMap f)) : RdSl S k R v ys := by
  obtain ⟨hl, h⟩ := h
  rcases h with ⟨rfl, h0⟩ | ⟨g, cap, cur, rfl, hS, hnc, hcm, hcs, ht⟩
  · have : ys = [] := List.eq_nil_of_length_eq_zero h0
    subst this
    exact ⟨none, 0, rfl, Nat.le_refl _, Nat.zero_le _, .inl rfl⟩
  · refine ⟨_, cap, rfl, hnc, hcm, .inr ⟨g, 0, cur, e, (0, 0), rfl, hS, fun i hi => ?_⟩⟩
    have := flat_at f k hf ys i hi
    have hik : i * k + k ≤ ys.length * k := by rw [← Nat.succ_mul]; exact Nat.mul_le_mul_right k hi
    rw [← ht, List.drop_take, List.take_take, Nat.min_eq_left (by omega)] at this
    rw [cellsAt, Nat.zero_add, this]
    exact hR _ (List.getElem_mem hi)

/- rows of numbers -/
def ints (ns : List Int) : List Value := ns.flatMap fun n => [.int .i64 n]
abbrev rowI (v : Value) (ns : List Int) : Item := .row v t_int 1 ns.length (ints ns)
theorem ints_snoc (ns : List Int) (n : Int) : ints ns ++ [.int .i64 n] = ints (ns ++ [n]) := by simp [ints]
theorem RowRd.ints {S : Store} {v : Value} {e : TypeId} {ns : List Int} (h : RowRd S v e 1 ns.length (ints ns)) : RdSl S 1 RdInt v ns :=
  RowRd.rd (f := fun n => [Value.int .i64 n]) (fun _ => rfl) (fun _ _ => rfl) h
def hasI (l : List Int) (n : Int) : Bool := l.any fun x => decide (n = x)
def addI (l : List Int) (n : Int) : List Int := if hasI l n = true then l else l ++ [n]
theorem addI_le (l : List Int) (n : Int) : (addI l n).length ≤ l.length + 1 := by
  unfold addI
  split <;> simp

theorem Index_int_calls (s : Int) {xs : List Int} {S : Store} {v : Value} (h : RdSl S 1 RdInt v xs) :
    Pure Try.prog n_x_Index_int [v, .int .i64 s] S (.int .i64 (indexF (σ := Unit) (fun _ x => (decide (s = x), ())) () xs 0).1) := by
  intro w hI
  have hlen := h.le
  simp only [maxLen] at hlen
  refine calls_x_Index_int ?_
  unfold sh_x_Index_int
  refine r_lenSl h sl_Sint ?_
  refine ⟨fun i w' => ∃ k : Nat, k ≤ xs.length ∧ i = .int .i64 k ∧ indexF (σ := Unit) (fun _ x => (decide (s = x), ())) () (xs.drop k) k = indexF (σ := Unit) (fun _ x => (decide (s = x), ())) () xs 0 ∧ Inv w [] [] S w',
    fun i _ => xs.length - (intOf i).toNat, ⟨0, Nat.zero_le _, rfl, rfl, hI⟩, ?_⟩
  intro t8 _ _ _ _ _ _ _ _ _ _ _ _ w'
  rintro ⟨k, hk, rfl, hrel, hI⟩
  refine r_lss ?_
  refine condP (fun hki => ?_) (fun hki => ?_)
  · have hk' : k < xs.length := by omega
    rw [List.drop_eq_getElem_cons hk', indexF] at hrel
    refine r_elem1 hI h sl_Sint sc_int hk' (fun cs hcs => hcs) ?_
    refine r_eql ?_
    refine condP (fun he => done hI ?_) (fun he => ?_)
    · rw [← hrel, if_pos (by simpa using he)]
    · refine r_add (by omega) ?_
      rw [if_neg (by simpa using he)] at hrel
      exact ⟨⟨k + 1, hk', rfl, hrel, hI⟩, by simp [intOf]; omega⟩
  · have : k = xs.length := by omega
    subst this
    rw [List.drop_length, indexF] at hrel
    exact done hI (by rw [← hrel])
theorem Contains_int_calls (s : Int) {xs : List Int} {S : Store} {v : Value} (h : RdSl S 1 RdInt v xs) : Pure Try.prog n_x_Contains_int [v, .int .i64 s] S (.bool (hasI xs s)) := by
  intro w hI
  refine calls_x_Contains_int ?_
  unfold sh_x_Contains_int
  refine Run.callPure fn_x_Index_int nm_x_Index_int hI (Index_int_calls s h) fun w' hI => ?_
  refine r_geq (done hI ?_)
  rw [(indexF_any _ xs () 0).1, anyF_pure]; rfl
theorem IndexFunc_int_of {σ : Type} {f : FuncId} {fn : Func} {cap : List Value} {S : Store} {It : σ → List Item} {ok : σ → Prop} {step : σ → Int → Bool × σ} {xs : List Int} {v : Value}
    (hcb : Cb Try.prog f fn cap S It ok step (fun v x => v = .int .i64 x) xs) (h : RdSl S 1 RdInt v xs) {st : σ} (hok : ok st) :
    Tri Try.prog n_x_IndexFunc_int [v, fv f cap] (It st) S fun r I' S' => r = .int .i64 (indexF step st xs 0).1 ∧ I' = It (indexF step st xs 0).2 ∧ S' = S := by
  intro w hI
  have hlen := h.le
  simp only [maxLen] at hlen
  refine calls_x_IndexFunc_int ?_
  unfold sh_x_IndexFunc_int
  refine r_lenSl h sl_Sint ?_
  refine ⟨fun i w' => ∃ (k : Nat) (st' : σ), k ≤ xs.length ∧ i = .int .i64 k ∧ ok st' ∧ indexF step st' (xs.drop k) k = indexF step st xs 0 ∧ Inv w (feet (It st)) (It st') S w', fun i _ => xs.length - (intOf i).toNat,
    ⟨0, st, Nat.zero_le _, rfl, hok, rfl, hI⟩, ?_⟩
  intro t8 _ _ _ _ _ _ _ _ _ _ _ _ w'
  rintro ⟨k, st', hk, rfl, hok', hrel, hI⟩
  refine r_lss ?_
  refine condP (fun hki => ?_) (fun hki => ?_)
  · have hk' : k < xs.length := by omega
    have hm := List.getElem_mem hk'
    have hstep : indexF step st' (xs.drop k) k = if (step st' xs[k]).1 then ((k : Int), (step st' xs[k]).2) else indexF step (step st' xs[k]).2 (xs.drop (k + 1)) (k + 1) := by
      rw [List.drop_eq_getElem_cons hk', indexF]
    refine r_elem1 hI h sl_Sint sc_int hk' (fun cs hcs => hcs) ?_
    refine Run.callV (A := []) (args := [.int .i64 xs[k]]) hcb.hf hcb.hn (by simpa using hI) (hcb.call st' _ _ hm hok' rfl) fun v' I' S' w' => ?_
    rintro ⟨rfl, rfl, rfl⟩ _ hI
    refine condV (fun hb => ?_) (fun hb => ?_)
    · rw [if_pos hb] at hstep
      refine ⟨_, _, _, rfl, by simpa using hI, Ext.refl _ _ _, ?_, ?_, rfl⟩
      · rw [← hrel, hstep]
      · rw [← hrel, hstep]
    · refine r_add (by omega) ?_
      rw [hb] at hstep
      refine ⟨⟨k + 1, _, hk', rfl, hcb.keep st' _ hm hok' hb, ?_, by simpa using hI⟩, by simp [intOf]; omega⟩
      rw [← hrel, hstep]
      rfl
  · have : k = xs.length := by omega
    subst this
    rw [List.drop_length, indexF] at hrel
    exact ⟨_, _, _, rfl, hI, Ext.refl _ _ _, by rw [← hrel], by rw [← hrel], rfl⟩
theorem ContainsFunc_int_of {σ : Type} {f : FuncId} {fn : Func} {cap : List Value} {S : Store} {It : σ → List Item} {ok : σ → Prop} {step : σ → Int → Bool × σ} {xs : List Int} {v : Value}
    (hcb : Cb Try.prog f fn cap S It ok step (fun v x => v = .int .i64 x) xs) (h : RdSl S 1 RdInt v xs) {st : σ} (hok : ok st) :
    Tri Try.prog n_x_ContainsFunc_int [v, fv f cap] (It st) S fun r I' S' => r = .bool (anyF step st xs).1 ∧ I' = It (anyF step st xs).2 ∧ S' = S := by
  intro w hI
  refine calls_x_ContainsFunc_int ?_
  unfold sh_x_ContainsFunc_int
  refine Run.call (A := []) fn_x_IndexFunc_int nm_x_IndexFunc_int (by simpa using hI) (IndexFunc_int_of hcb h hok) fun v' I' S' w' => ?_
  rintro ⟨rfl, rfl, rfl⟩ _ hI
  refine r_geq ?_
  have he := indexF_any step xs st 0
  exact ⟨_, _, _, rfl, by simpa using hI, Ext.refl _ _ _, by rw [he.1], by rw [he.2], rfl⟩
theorem l16In_calls (s : Int) {xs : List Int} {S : Store} {v : Value} (h : RdSl S 1 RdInt v xs) : Pure Try.prog n_s_l16In [v, .int .i64 s] S (.bool (hasI xs s)) := by
  intro w hI
  have hlen := h.le
  simp only [maxLen] at hlen
  refine calls_s_l16In ?_
  unfold sh_s_l16In
  refine ⟨fun i w' => ∃ k : Nat, k ≤ xs.length ∧ i = .int .i64 k ∧ hasI (xs.drop k) s = hasI xs s ∧ Inv w [] [] S w', fun i _ => xs.length - (intOf i).toNat, ⟨0, Nat.zero_le _, rfl, rfl, hI⟩, ?_⟩
  intro t5 _ _ _ _ _ _ _ _ _ _ _ _ _ w'
  rintro ⟨k, hk, rfl, hrel, hI⟩
  refine r_lenSl h sl_Sint ?_
  refine r_lss ?_
  refine condP (fun hki => ?_) (fun hki => ?_)
  · have hk' : k < xs.length := by omega
    have hstep : hasI (xs.drop k) s = (decide (s = xs[k]) || hasI (xs.drop (k + 1)) s) := any_drop _ xs k hk'
    refine r_elem1 hI h sl_Sint sc_int hk' (fun cs hcs => hcs) ?_
    refine r_eql ?_
    refine condP (fun he => done hI ?_) (fun he => ?_)
    · rw [← hrel, hstep, decide_eq_true he.symm]; rfl
    · refine r_add (by omega) ?_
      exact ⟨⟨k + 1, hk', rfl, by rw [← hrel, hstep, decide_eq_false (fun e => he e.symm)]; rfl, hI⟩, by simp [intOf]; omega⟩
  · have : k = xs.length := by omega
    subst this
    exact done hI (by rw [← hrel, List.drop_length]; rfl)

end Go.Proofs.Ytnoieadimkgjcaa
