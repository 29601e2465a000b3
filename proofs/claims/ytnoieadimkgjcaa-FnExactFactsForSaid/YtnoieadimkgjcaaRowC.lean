/- Rows of clauses that are only read: grown, joined, copied. -/
import Derived.Test.YtnoieadimkgjcaaCopyC
import Derived.Test.YtnoieadimkgjcaaAppend
namespace Go.Proofs.Ytnoieadimkgjcaa
open Go Go.RowKit

structure Rows {α : Type} (k : Nat) (R : List Value → α → Prop) (css : List (List Value)) (ys : List α) : Prop where
  hc : css.length = ys.length
  hk : ∀ cs ∈ css, cs.length = k
  hR : ∀ i (h : i < ys.length) (h1 : i < css.length), R css[i] ys[i]
theorem Rows.nil {α : Type} (k : Nat) (R : List Value → α → Prop) : Rows k R [] ([] : List α) := ⟨rfl, by simp, fun i h => by simp at h⟩
theorem Rows.snoc {α : Type} {k : Nat} {R : List Value → α → Prop} {css : List (List Value)} {ys : List α} (h : Rows k R css ys) {cs : List Value} {y : α} (hR : R cs y) (hl : cs.length = k) : Rows k R (css ++ [cs]) (ys ++ [y]) := by
  refine ⟨by simp [h.hc], fun c hc => ?_, fun i h0 h2 => ?_⟩
  · rcases List.mem_append.1 hc with hc | hc
    · exact h.hk c hc
    · simp at hc; subst hc; exact hl
  · have e2 := h.hc
    by_cases hi : i < ys.length
    · rw [List.getElem_append_left (by omega), List.getElem_append_left hi]
      exact h.hR i hi (by omega)
    · have : i = ys.length := by simp at h0; omega
      subst this
      rw [List.getElem_append_right (by omega), List.getElem_append_right (by omega)]
      simp only [e2, Nat.sub_self, List.getElem_cons_zero]
      exact hR
theorem Rows.append {α : Type} {k : Nat} {R : List Value → α → Prop} {css css' : List (List Value)} {ys ys' : List α} (h : Rows k R css ys) (h' : Rows k R css' ys') : Rows k R (css ++ css') (ys ++ ys') := by
  have e := h.hc
  have e' := h'.hc
  refine ⟨by simp [e, e'], fun c hc => ?_, fun i h0 h2 => ?_⟩
  · rcases List.mem_append.1 hc with hc | hc
    · exact h.hk c hc
    · exact h'.hk c hc
  · by_cases hi : i < ys.length
    · rw [List.getElem_append_left (by omega), List.getElem_append_left hi]
      exact h.hR i hi (by omega)
    · have hi' : i - css.length < ys'.length := by simp at h0; omega
      rw [List.getElem_append_right (by omega), List.getElem_append_right (by omega)]
      have := h'.hR (i - css.length) hi' (by omega)
      simpa only [e] using this
theorem RowRd.rows {α : Type} {S : Store} {v : Value} {e : TypeId} {k : Nat} {R : List Value → α → Prop} {css : List (List Value)} {ys : List α} (hr : Rows k R css ys) (h : RowRd S v e k css.length css.flatten) : RdSl S k R v ys := by
  obtain ⟨hl, h⟩ := h
  have hcy := hr.hc
  rcases h with ⟨rfl, h0⟩ | ⟨g, cap, cur, rfl, hS, hnc, hcm, hcs, ht⟩
  · have : ys = [] := List.eq_nil_of_length_eq_zero (by omega)
    subst this
    exact ⟨none, 0, rfl, Nat.le_refl _, Nat.zero_le _, .inl rfl⟩
  · refine ⟨_, cap, by rw [hcy], by omega, hcm, .inr ⟨g, 0, cur, e, (0, 0), rfl, hS, fun i hi => ?_⟩⟩
    have := flatten_at k css i hr.hk (by omega)
    have hik : i * k + k ≤ css.length * k := by rw [← Nat.succ_mul]; exact Nat.mul_le_mul_right k (by omega)
    rw [← ht, List.drop_take, List.take_take, Nat.min_eq_left (by omega)] at this
    rw [cellsAt, Nat.zero_add, this]
    exact hr.hR i hi (by omega)
theorem flatten_one {css : List (List Value)} (h : ∀ cs ∈ css, ∀ u ∈ cs, u.oneCell' = true) : ∀ u ∈ css.flatten, u.oneCell' = true := by
  intro u hu
  obtain ⟨cs, hc, hu⟩ := List.mem_flatten.1 hu
  exact h cs hc u hu
theorem flatten_len {k : Nat} : ∀ {css : List (List Value)}, (∀ cs ∈ css, cs.length = k) → css.flatten.length = css.length * k
  | [], _ => by simp
  | c :: css, h => by
    have := flatten_len (css := css) fun cs hc => h cs (List.mem_cons_of_mem _ hc)
    rw [List.flatten_cons, List.length_append, h c (List.mem_cons_self ..), this, List.length_cons, Nat.succ_mul, Nat.add_comm]
section
variable {P : Program} {w w0 : World} {X : List Nat} {L : List Item} {S : Store} {K : Value → World → Prop}
attribute [local irreducible] Run CondV GuardV LoadV
/- append(row, other row...) -/
theorem r_appendRow (h : Inv w0 X L S w) {T ty e : TypeId} {k by_ : Nat} {z v u : Value} {cs : List Bool} {css css2 : List (List Value)} (i i2 : Nat)
    (hT : mkOf P T = some (e, k, by_, z)) (hk0 : 0 < k) (hi : L[i]? = some (rowG v e k css)) (hi2 : L[i2]? = some (rowG u e k css2)) (hk2 : ∀ cs ∈ css2, cs.length = k) (h1 : ∀ cs ∈ css2, ∀ u ∈ cs, u.oneCell' = true)
    (hfit : css.length + css2.length ≤ 4294967296) (hby : by_ ≤ 32768) (hk : ∀ v' w', Inv w0 X (L.set i (rowG v' e k (css ++ css2))) S w' → K v' w') :
    Run P (sBuiltin .append #[T, T] ty cs [v, u]) w K := by
  have hm : w.ownsRow 0 e k u css2.length css2.flatten := h.its _ (List.mem_of_getElem? hi2)
  rcases hm.2 with ⟨rfl, h0⟩ | ⟨g, cap, cur, rfl, _, hg, hnc, hcm, hcs, ht⟩
  · have : css2 = [] := List.eq_nil_of_length_eq_zero h0
    subst this
    refine r_append0 h i hT hi (hk v w ?_)
    have : L.set i (rowG v e k (css ++ [])) = L := by
      obtain ⟨hlt, e'⟩ := List.getElem?_eq_some_iff.1 hi
      rw [List.append_nil, ← e', List.set_getElem_self]
    rw [this]
    exact h
  · refine r_append h i css2.flatten hT hk0 hi (flatten_len hk2) (o := 0) ?_ (flatten_one h1) hfit hby fun v' w' hI => hk _ _ ?_
    · intro j u hj
      rw [Nat.zero_add]
      rw [← ht, List.getElem?_take] at hj
      split at hj
      · simpa [World.cell?, hg] using hj
      · cases hj
    · have e : Item.row v' e k (css.length + css2.length) (css.flatten ++ css2.flatten) = rowG v' e k (css ++ css2) := by simp [rowG]
      rw [← e]
      exact hI
end
abbrev PostCB (S : Store) (ys : List C) (b : Bool) : Value → List Item → Store → Prop := fun r I' S' => S' = S ∧ ∃ u L, r = .tuple #[u, .bool b] ∧ I' = blks L ∧ TrSl 5 TrC L u ys
theorem wP_filter (f : C → Bool) : ∀ p : List C, (p.filter f).length + wP (p.filter f) + ((p.filter fun c => !f c).length + wP (p.filter fun c => !f c)) = p.length + wP p
  | [] => rfl
  | c :: p => by
    have := wP_filter f p
    rw [List.filter_cons, List.filter_cons]
    cases f c <;> simp [wP] <;> omega
theorem wP_append : ∀ p q : List C, wP (p ++ q) = wP p + wP q
  | [], q => by simp [wP]
  | c :: p, q => by simp only [List.cons_append, wP, wP_append p q]; omega
theorem filter_snoc {α : Type} (f : α → Bool) (l : List α) (k : Nat) (h : k < l.length) (m : List α) : (if f l[k] = true then m ++ [l[k]] else m) ++ (l.drop (k + 1)).filter f = m ++ (l.drop k).filter f := by
  rw [List.drop_eq_getElem_cons h, List.filter_cons]
  split
  · rw [List.append_assoc]; rfl
  · rfl

end Go.Proofs.Ytnoieadimkgjcaa
