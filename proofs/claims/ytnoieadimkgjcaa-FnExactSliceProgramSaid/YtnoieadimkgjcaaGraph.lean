/- The graph of calls: the plain form. -/
import Derived.Test.YtnoieadimkgjcaaReach
namespace Go.Proofs.Ytnoieadimkgjcaa
open Go Go.RowKit
attribute [local irreducible] Run CondV GuardV LoadV

def goalsP (l : List Pd) (ts : List T) : List Pd := ts.foldl (fun l t => if plainB t = true then addP l (predT t) else l) l
def callsFrom (l : List Pd) (p : List C) (x : Pd) : List Pd := p.foldl (fun l c => if eqPd (predT c.head) x = true then goalsP l c.body else l) l
def callsP (p : List C) (x : Pd) : List Pd := callsFrom [] p x
def addAll (l m : List Pd) : List Pd := m.foldl addP l
def reachF : Nat → List C → List Pd → Nat → List Pd
  | 0, _, l, _ => l
  | n + 1, p, l, i => if h : i < l.length then reachF n p (addAll l (callsP p l[i])) (i + 1) else l
def gPs (p : List C) : List Pd := p.flatMap fun c => c.body.map predT
def reachP (p : List C) (l : List Pd) : List Pd := reachF (l.length + (gPs p).length) p l 0
theorem goalsP_drop (l : List Pd) (ts : List T) (k : Nat) (h : k < ts.length) : goalsP l (ts.drop k) = goalsP (if plainB ts[k] = true then addP l (predT ts[k]) else l) (ts.drop (k + 1)) := by
  rw [List.drop_eq_getElem_cons h]; rfl
theorem callsFrom_drop (l : List Pd) (p : List C) (x : Pd) (k : Nat) (h : k < p.length) : callsFrom l (p.drop k) x = callsFrom (if eqPd (predT p[k].head) x = true then goalsP l p[k].body else l) (p.drop (k + 1)) x := by
  rw [List.drop_eq_getElem_cons h]; rfl
theorem addAll_drop (l m : List Pd) (k : Nat) (h : k < m.length) : addAll l (m.drop k) = addAll (addP l m[k]) (m.drop (k + 1)) := by
  rw [List.drop_eq_getElem_cons h]; rfl
theorem addP_len (l : List Pd) (x : Pd) : (addP l x).length ≤ l.length + 1 := by
  unfold addP
  split
  · omega
  · simp
theorem goalsP_len : ∀ (ts : List T) (l : List Pd), (goalsP l ts).length ≤ l.length + ts.length
  | [], l => Nat.le_refl _
  | t :: ts, l => by
    have h := goalsP_len ts (if plainB t = true then addP l (predT t) else l)
    have h2 := addP_len l (predT t)
    have e : goalsP l (t :: ts) = goalsP (if plainB t = true then addP l (predT t) else l) ts := rfl
    rw [e, List.length_cons]
    split at h <;> rename_i hp
    · rw [if_pos hp]; omega
    · rw [if_neg hp]; omega
theorem gPs_cons (c : C) (p : List C) : (gPs (c :: p)).length = c.body.length + (gPs p).length := by simp [gPs]
theorem gPs_le : ∀ p : List C, (gPs p).length ≤ wP p
  | [] => by simp [gPs]
  | c :: p => by
    have := gPs_le p
    rw [gPs_cons]
    simp only [wP, wC]
    omega
theorem callsFrom_len (x : Pd) : ∀ (p : List C) (l : List Pd), (callsFrom l p x).length ≤ l.length + (gPs p).length
  | [], l => Nat.le_add_right _ _
  | c :: p, l => by
    have h := callsFrom_len x p (if eqPd (predT c.head) x = true then goalsP l c.body else l)
    have h2 := goalsP_len c.body l
    have e : callsFrom l (c :: p) x = callsFrom (if eqPd (predT c.head) x = true then goalsP l c.body else l) p x := rfl
    rw [e, gPs_cons]
    split at h <;> rename_i hp
    · rw [if_pos hp]; omega
    · rw [if_neg hp]; omega
theorem goalsP_mem : ∀ (ts : List T) (l : List Pd) (y : Pd), y ∈ goalsP l ts → y ∈ l ∨ y ∈ ts.map predT
  | [], l, y, h => .inl h
  | t :: ts, l, y, h => by
    have e : goalsP l (t :: ts) = goalsP (if plainB t = true then addP l (predT t) else l) ts := rfl
    rw [e] at h
    rcases goalsP_mem ts _ y h with h | h
    · split at h
      · unfold addP at h
        split at h
        · exact .inl h
        · rcases List.mem_append.1 h with h | h
          · exact .inl h
          · simp at h; subst h; exact .inr (by simp)
      · exact .inl h
    · exact .inr (by simp at h ⊢; exact .inr h)
theorem callsFrom_mem (x : Pd) : ∀ (p : List C) (l : List Pd) (y : Pd), y ∈ callsFrom l p x → y ∈ l ∨ y ∈ gPs p
  | [], l, y, h => .inl h
  | c :: p, l, y, h => by
    have e : callsFrom l (c :: p) x = callsFrom (if eqPd (predT c.head) x = true then goalsP l c.body else l) p x := rfl
    have hG : ∀ z, z ∈ gPs (c :: p) ↔ z ∈ c.body.map predT ∨ z ∈ gPs p := fun z => by simp only [gPs, List.flatMap_cons, List.mem_append]
    rw [e] at h
    rcases callsFrom_mem x p _ y h with h | h
    · split at h
      · rcases goalsP_mem _ _ _ h with h | h
        · exact .inl h
        · exact .inr ((hG y).2 (.inl h))
      · exact .inl h
    · exact .inr ((hG y).2 (.inr h))
theorem callsP_mem {p : List C} {x y : Pd} (h : y ∈ callsP p x) : y ∈ gPs p := by
  rcases callsFrom_mem x p [] y h with h | h
  · simp at h
  · exact h
theorem callsP_len (p : List C) (x : Pd) : (callsP p x).length ≤ (gPs p).length := by
  have := callsFrom_len x p []
  simp at this
  exact this
/- what may still come in -/
def pot (G l : List Pd) : Nat := (G.filter fun g => !hasP l g).length
theorem pot_le (G l : List Pd) : pot G l ≤ G.length := List.length_filter_le ..
theorem hasP_snoc (l : List Pd) (x g : Pd) : hasP (l ++ [x]) g = (hasP l g || eqPd g x) := by simp [hasP]
theorem pot_snoc_le (l : List Pd) (x : Pd) : ∀ G : List Pd, pot G (l ++ [x]) ≤ pot G l
  | [] => Nat.le_refl _
  | g :: G => by
    have := pot_snoc_le l x G
    unfold pot at *
    rw [List.filter_cons, List.filter_cons, hasP_snoc]
    cases hasP l g <;> cases eqPd g x <;> simp <;> omega
theorem pot_snoc_lt (l : List Pd) (x : Pd) (hx : hasP l x = false) : ∀ G : List Pd, x ∈ G → pot G (l ++ [x]) + 1 ≤ pot G l
  | g :: G, h => by
    by_cases e : x = g
    · subst e
      have := pot_snoc_le l x G
      unfold pot at *
      rw [List.filter_cons, List.filter_cons, hasP_snoc, hx, eqPd_iff]
      simp
      omega
    · have h' : x ∈ G := by
        rcases List.mem_cons.1 h with h | h
        · exact absurd h e
        · exact h
      have := pot_snoc_lt l x hx G h'
      unfold pot at *
      rw [List.filter_cons, List.filter_cons, hasP_snoc]
      have e2 : eqPd g x = false := by rw [eqPd_iff]; exact decide_eq_false fun h => e h.symm
      rw [e2]
      cases hasP l g <;> simp <;> omega
theorem addP_pot {G l : List Pd} {x : Pd} (hx : x ∈ G) : (addP l x).length + pot G (addP l x) ≤ l.length + pot G l := by
  unfold addP
  split
  · exact Nat.le_refl _
  · rename_i h
    have := pot_snoc_lt l x (Bool.eq_false_iff.2 h) G hx
    rw [List.length_append, List.length_singleton]
    omega

/- rows of predicates: their length, an element -/
section
variable {P : Program} {w w0 : World} {X : List Nat} {L : List Item} {S : Store} {K : Value → World → Prop}
theorem Inv.toEnd {it : Item} (h : Inv w0 X L S w) (i : Nat) (hi : L[i]? = some it) : Inv w0 X ((L.take i ++ L.drop (i + 1)) ++ [it]) S w := by
  obtain ⟨h1, _⟩ := set_split hi it
  refine h.perm ?_
  conv => rhs; rw [h1]
  rw [List.append_assoc]
  exact List.Perm.append_left _ List.perm_append_comm
theorem r_lenRow (h : Inv w0 X L S w) {T ty : TypeId} {cs : List Bool} {v : Value} {l : List Pd} {Ek : TypeId × Nat} (i : Nat) (hi : L[i]? = some (rowP v l)) (hu : sliceOf P T = some Ek)
    (hk : K (.int .i64 l.length) w) : Run P (sBuiltin .len #[T] ty cs [v]) w K := by
  obtain ⟨S1, _, hrd, _, _⟩ := (h.toEnd i hi).lend
  exact r_lenSl hrd.preds hu hk
theorem r_elemRow (h : Inv w0 X L S w) {T U ty ty' E : TypeId} {v : Value} {l : List Pd} (i : Nat) (hi : L[i]? = some (rowP v l)) (hu : sliceOf P T = some (E, 2)) (hU : aggN P U = some 2)
    {j : Nat} (hj : j < l.length) (hk : K (.agg l[j].cells.toArray) w) :
    Run P (sOp (.indexAddr T (.const v) (.const (.int .i64 j))) ty) w fun p w' => Run P (sOp (.load U (.const p)) ty') w' K := by
  obtain ⟨S1, _, hrd, hI, _⟩ := (h.toEnd i hi).lend
  exact r_elem hI hrd.preds hu hU hj (fun cs x h => by rw [h]; rfl) fun cs hcs => by rw [hcs]; exact hk
theorem Inv.rowLe (h : Inv w0 X L S w) {v : Value} {l : List Pd} (i : Nat) (hi : L[i]? = some (rowP v l)) : l.length ≤ maxLen := by
  obtain ⟨S1, _, hrd, _, _⟩ := (h.toEnd i hi).lend
  exact hrd.preds.le
end

theorem s_l14Goals_calls {ts : List T} {S : Store} {u v : Value} (l : List Pd) (h : RdSl S 4 (RdT S) u ts) (hl : l.length + ts.length ≤ 1000000000) : Tri Try.prog n_s_l14Goals [v, u] [rowP v l] S (PostP S (goalsP l ts)) := by
  intro w hI
  obtain ⟨X, hX⟩ : ∃ X, X = feet [rowP v l] := ⟨_, rfl⟩
  rw [← hX] at hI ⊢
  refine calls_s_l14Goals ?_
  unfold sh_s_l14Goals
  refine ⟨fun i t w' => ∃ (k : Nat) (m : List Pd), k ≤ ts.length ∧ i = .int .i64 k ∧ goalsP m (ts.drop k) = goalsP l ts ∧ m.length ≤ l.length + k ∧ Inv w X [rowP t m] S w', fun i _ _ => ts.length - (intOf i).toNat, ⟨0, l, Nat.zero_le _, rfl, rfl, Nat.le_refl _, hI⟩, ?_⟩
  intro t5 _ _ t0 _ _ _ _ _ _ _ _ _ _ _ _ _ _ _ _ w'
  rintro ⟨k, m, hk, rfl, hrel, hml, hI⟩
  refine r_lenSl h sl_SiTerm ?_
  refine r_lss ?_
  refine condP (fun hki => ?_) (fun hki => ?_)
  · have hk' : k < ts.length := by omega
    rw [goalsP_drop m ts k hk'] at hrel
    refine ⟨fun t w' => Inv w X [rowP t (if plainB ts[k] = true then addP m (predT ts[k]) else m)] S w', ?_, ?_⟩
    · refine r_elem hI h sl_SiTerm ag_iTerm hk' (fun _ _ => RdT.length) fun cs hcs => ?_
      refine Run.callPure fn_s_l4Plain nm_s_l4Plain hI (l4Plain_calls hcs) fun w' hI => ?_
      refine condV (fun hb => ?_) (fun hb => ?_)
      · refine r_elem hI h sl_SiTerm ag_iTerm hk' (fun _ _ => RdT.length) fun cs hcs => ?_
        refine Run.callPure fn_s_l14Of nm_s_l14Of hI (s_l14Of_calls hcs) fun w' hI => ?_
        refine Run.call (A := []) fn_s_l14Add nm_s_l14Add hI (l14Add_calls (predT ts[k]) m t0 S (by omega)) fun v' I' S' w' => ?_
        rintro ⟨rfl, rfl⟩ _ hI
        rw [if_pos hb]
        exact hI
      · rw [if_neg (by rw [hb]; decide)]
        exact hI
    · intro t0 _ _ _ _ _ _ _ _ _ _ _ _ w' hI
      refine r_add (by omega) ?_
      refine ⟨⟨k + 1, _, hk', rfl, hrel, ?_, hI⟩, by simp [intOf]; omega⟩
      have := addP_len m (predT ts[k])
      split <;> omega
  · have : k = ts.length := by omega
    subst this
    rw [List.drop_length] at hrel
    have hrel : m = goalsP l ts := hrel
    rw [← hrel]
    exact ⟨_, _, _, rfl, hI, Ext.refl _ _ _, rfl, rfl⟩

end Go.Proofs.Ytnoieadimkgjcaa
