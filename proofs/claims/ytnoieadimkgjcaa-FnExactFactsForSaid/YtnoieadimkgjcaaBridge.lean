/- The row's reading of the arguments gives the reading of this proof; and what a law that returns true owes. -/
import Derived.Test.YtnoieadimkgjcaaFlat
import Derived.Test.YtnoieadimkgjcaaRows
import Derived.ProofKit
import Derived.ReadAgain
import Derived.Carry
namespace Go.Proofs.Ytnoieadimkgjcaa
open Go Go.ChangeShapes Go.WideShapes Go.ChangeAt Go.RowKit

def heapS (W : World) : Store := fun b => W.heap[b]?
section
variable {H : Type} {enc : TypeId × Value → H} {P : Program} {W : World} {sp : Nat → Bool} {held : Bool}
theorem trod_int {t : TypeId} {fuel : Nat} {c : Value} {x : DataW H × List MemPlace} (ht : P.underlying t = some (.int .i64)) (h : DataW.trod enc P W 0 sp held fuel t [c] = some x) :
    ∃ n, c = .int .i64 n ∧ inI n := by
  cases fuel with
  | zero => simp [DataW.trod] at h
  | succ n =>
    unfold DataW.trod at h
    rw [ht] at h
    split at h <;> simp_all
    rename_i k1 k2 m he
    subst he
    obtain ⟨⟨_, h⟩, _⟩ := h
    simp only [Lit.wf, Bool.and_eq_true, decide_eq_true_eq] at h
    exact h
theorem trod_str {t : TypeId} {fuel : Nat} {c : Value} {x : DataW H × List MemPlace} (ht : P.underlying t = some .string) (h : DataW.trod enc P W 0 sp held fuel t [c] = some x) :
    ∃ s, c = .string s ∧ s.size ≤ maxLen := by
  cases fuel with
  | zero => simp [DataW.trod] at h
  | succ n =>
    unfold DataW.trod at h
    rw [ht] at h
    split at h <;> simp_all
theorem trod_flds {t : TypeId} {fuel : Nat} {l : List (Nat × TypeId)} {cs : List Value} {x : DataW H × List MemPlace} (ht : flds P t = some l) (h : DataW.trod enc P W 0 sp held fuel t cs = some x) :
    ∃ n, fuel = n + 1 ∧ cs.length = P.cellsOf t ∧ ∀ (i : Nat) (o : Nat) (u : TypeId), l[i]? = some (o, u) → ∃ y, DataW.trod enc P W 0 sp held n u ((cs.drop o).take (P.cellsOf u)) = some y := by
  unfold flds at ht
  split at ht
  · rename_i fs hfs
    obtain ⟨xs, n, hn, _, hl, hxs, hf⟩ := DataW.trod_struct hfs h
    refine ⟨n, hn, hl, fun i o u hi => ?_⟩
    simp only [Option.some.injEq] at ht
    subst ht
    rw [List.getElem?_map, Option.map_eq_some_iff] at hi
    obtain ⟨f, hfi, he⟩ := hi
    simp only [Prod.mk.injEq] at he
    obtain ⟨rfl, rfl⟩ := he
    have hfi' : fs[i]? = some f := by rw [← Array.getElem?_toList]; exact hfi
    have hlt : i < xs.length := by
      rw [hxs]
      exact (Array.getElem?_eq_some_iff.1 hfi').1
    have := hf i f hfi'
    rw [List.getElem?_eq_getElem hlt] at this
    exact ⟨_, this⟩
  · cases ht
theorem cell_spot {a : Addr} {v : Value} (h : W.cell? a = some v) : ∃ b o c E fz, a = ⟨b, o, none⟩ ∧ W.heap[b]? = some (.cells c E fz) ∧ c[o]? = some v := by
  obtain ⟨b, o, s⟩ := a
  simp only [World.cell?] at h
  split at h
  · rename_i c E fz hb
    cases s with
    | none => exact ⟨b, o, c, E, fz, rfl, hb, by simpa using h⟩
    | some s => simp at h
  · cases h
theorem cells_at {b o k : Nat} {cs : List Value} {c : Array Value} {E : TypeId} {fz : Nat × Nat} (hb : W.heap[b]? = some (.cells c E fz)) (h : W.cells? 0 ⟨b, o, none⟩ k = some cs) : cellsAt c o k = cs := by
  unfold World.cells? at h
  rw [if_pos (Nat.zero_le _)] at h
  have hl : cs.length = k := by simpa using mapM_some_length h
  apply List.ext_getElem?
  intro i
  rw [cellsAt, List.getElem?_take]
  by_cases hi : i < k
  · rw [if_pos hi, List.getElem?_drop]
    have := mapM_some_get h i i (by simp [hi])
    rw [← this, add_lit]
    simp [World.cell?, hb]
  · rw [if_neg hi, List.getElem?_eq_none (by omega)]
theorem exists_list {α : Type} (p : Nat → α → Prop) : ∀ n : Nat, (∀ i, i < n → ∃ t, p i t) → ∃ xs : List α, xs.length = n ∧ ∀ i (h : i < xs.length), p i xs[i]
  | 0, _ => ⟨[], rfl, fun i h => by simp at h⟩
  | n + 1, h => by
    obtain ⟨xs, hl, hx⟩ := exists_list p n fun i hi => h i (by omega)
    obtain ⟨t, ht⟩ := h n (by omega)
    refine ⟨xs ++ [t], by simp [hl], fun i hi => ?_⟩
    by_cases e : i < xs.length
    · rw [List.getElem_append_left e]
      exact hx i e
    · have : i = xs.length := by simp at hi; omega
      subst this
      simp only [List.getElem_append_right (Nat.le_refl _), Nat.sub_self, List.getElem_cons_zero]
      rw [hl]
      exact ht
theorem slice_parts {T e : TypeId} {k : Nat} (h : sliceOf P T = some (e, k)) : P.underlying T = some (.slice e) ∧ P.cellsOf e = k := by
  unfold sliceOf at h
  split at h
  · rename_i e' he
    rw [Option.map_eq_some_iff] at h
    obtain ⟨i, hi, hx⟩ := h
    simp only [Prod.mk.injEq] at hx
    obtain ⟨rfl, rfl⟩ := hx
    exact ⟨he, by simp [Program.cellsOf, hi]⟩
  · cases h
theorem trod_sl {α : Type} {R : List Value → α → Prop} {T e : TypeId} {k fuel : Nat} {v : Value} {x : DataW H × List MemPlace} (hu : sliceOf P T = some (e, k)) (hk0 : 0 < k)
    (h : DataW.trod enc P W 0 sp held fuel T [v] = some x) (hel : ∀ n cs y, fuel = n + 1 → DataW.trod enc P W 0 sp held n e cs = some y → ∃ t : α, R cs t) : ∃ xs, RdSl (heapS W) k R v xs := by
  obtain ⟨hu1, hk⟩ := slice_parts hu
  rcases DataW.trod_slice hu1 h with ⟨hcs, _⟩ | ⟨a, len, cap, elems, rest, n, hf, hcs, _, _, hl, hc, hlen, hE, _⟩
  · simp only [List.cons.injEq, and_true] at hcs
    subst hcs
    exact ⟨[], none, 0, rfl, Nat.le_refl _, Nat.zero_le _, .inl rfl⟩
  · simp only [List.cons.injEq, and_true] at hcs
    subst hcs
    have hE' : ∀ i, i < len → ∃ t : α, ∃ cs, W.cells? 0 (a.add (i * k)) k = some cs ∧ R cs t := by
      intro i hi
      have := hE i hi
      rw [hk, List.getElem?_eq_getElem (by omega), Option.bind_eq_some_iff] at this
      obtain ⟨cs, h1, h2⟩ := this
      obtain ⟨t, ht⟩ := hel n cs _ hf h2
      exact ⟨t, cs, h1, ht⟩
    obtain ⟨xs, hxl, hxs⟩ := exists_list _ len hE'
    subst hxl
    refine ⟨xs, some a, cap, rfl, hl, hc, ?_⟩
    by_cases h0 : xs.length = 0
    · exact .inl (List.eq_nil_of_length_eq_zero h0)
    · obtain ⟨cs0, h1, _⟩ := hxs 0 (by omega)
      have e0 : a.add (0 * k) = a := by rw [Nat.zero_mul]; simp [Addr.add]
      rw [e0] at h1
      have hc0 : ∃ u, W.cell? a = some u := by
        unfold World.cells? at h1
        rw [if_pos (Nat.zero_le _)] at h1
        have hl0 : cs0.length = k := by simpa using mapM_some_length h1
        have := mapM_some_get h1 0 0 (by simp [hk0])
        rw [List.getElem?_eq_getElem (by omega)] at this
        have e1 : a.add 0 = a := by simp [Addr.add]
        rw [e1] at this
        exact ⟨_, this⟩
      obtain ⟨u, hu0⟩ := hc0
      obtain ⟨b, o, c, E, fz, rfl, hb, _⟩ := cell_spot hu0
      refine .inr ⟨b, o, c, E, fz, rfl, hb, fun i hi => ?_⟩
      obtain ⟨cs, h2, hR⟩ := hxs i hi
      rw [add_lit] at h2
      rw [cells_at hb h2]
      exact hR
end

section
variable {H : Type} {enc : TypeId × Value → H} {W : World} {sp : Nat → Bool} {held : Bool}
theorem four {cs : List Value} (h : cs.length = 4) : ∃ a b c d, cs = [a, b, c, d] := by
  match cs, h with
  | [a, b, c, d], _ => exact ⟨a, b, c, d, rfl⟩
theorem five {cs : List Value} (h : cs.length = 5) : ∃ a b c d e, cs = [a, b, c, d, e] := by
  match cs, h with
  | [a, b, c, d, e], _ => exact ⟨a, b, c, d, e, rfl⟩
theorem trod_term : ∀ (fuel : Nat) (cs : List Value) (x : DataW H × List MemPlace), DataW.trod enc Try.prog W 0 sp held fuel t_lTerm cs = some x → ∃ t, RdT (heapS W) cs t := by
  intro fuel
  induction fuel using Nat.strongRecOn with
  | _ fuel ih =>
    intro cs x h
    obtain ⟨n, hn, hl, hf⟩ := trod_flds fl_lTerm h
    rw [co_lTerm] at hl
    obtain ⟨c0, c1, c2, c3, rfl⟩ := four hl
    obtain ⟨y0, h0⟩ := hf 0 _ _ rfl
    obtain ⟨y1, h1⟩ := hf 1 _ _ rfl
    obtain ⟨y2, h2⟩ := hf 2 _ _ rfl
    obtain ⟨y3, h3⟩ := hf 3 _ _ rfl
    rw [co_int] at h0 h1
    rw [co_string] at h2
    rw [co_SlTerm] at h3
    obtain ⟨k, rfl, hk⟩ := trod_int un_int h0
    obtain ⟨m, rfl, hm⟩ := trod_int un_int h1
    obtain ⟨s, rfl, hs⟩ := trod_str un_string h2
    obtain ⟨ks, hks⟩ := trod_sl (R := RdT (heapS W)) sl_SlTerm (by omega) h3 fun n' cs' y hn' hy => ih n' (by omega) cs' y hy
    exact ⟨.mk k m s ks, RdT.iff.2 ⟨c3, rfl, hk, hm, hs, hks⟩⟩
theorem trod_terms {fuel : Nat} {v : Value} {x : DataW H × List MemPlace} (h : DataW.trod enc Try.prog W 0 sp held fuel t_SlTerm [v] = some x) : ∃ ts, RdSl (heapS W) 4 (RdT (heapS W)) v ts :=
  trod_sl sl_SlTerm (by omega) h fun n' cs' y _ hy => trod_term n' cs' y hy
theorem trod_clause {fuel : Nat} {cs : List Value} {x : DataW H × List MemPlace} (h : DataW.trod enc Try.prog W 0 sp held fuel t_lClause cs = some x) : ∃ c, RdC (heapS W) cs c := by
  obtain ⟨n, hn, hl, hf⟩ := trod_flds fl_lClause h
  rw [co_lClause] at hl
  obtain ⟨y0, h0⟩ := hf 0 _ _ rfl
  obtain ⟨y1, h1⟩ := hf 1 _ _ rfl
  rw [co_lTerm] at h0
  rw [co_SlTerm] at h1
  obtain ⟨a, b, c, d, e, rfl⟩ := five hl
  obtain ⟨t, ht⟩ := trod_term _ [a, b, c, d] _ h0
  obtain ⟨ks, hks⟩ := trod_terms (v := e) h1
  exact ⟨⟨t, ks⟩, [a, b, c, d], e, rfl, ht, hks⟩
theorem trod_clauses {fuel : Nat} {v : Value} {x : DataW H × List MemPlace} (h : DataW.trod enc Try.prog W 0 sp held fuel t_SlClause [v] = some x) : ∃ p, RdSl (heapS W) 5 (RdC (heapS W)) v p :=
  trod_sl sl_SlClause (by omega) h fun _ _ _ _ hy => trod_clause hy
end

theorem Inv.entry (W : World) : Inv W [] [] (heapS W) W := Inv.start (L := []) (by simp) (by simp [feet]) fun b o hb => ⟨hb, by simp [feet]⟩
theorem Inv.same {W W' : World} {L : List Item} {S : Store} (h : Inv W [] L S W') (b : Nat) (hb : b < W.heap.size) : W'.heap[b]? = W.heap[b]? := h.old b hb (by simp)
theorem same_kept {W W' : World} {may : MemPlace → Prop} (ho : W'.os = W.os) (hp : W'.output = W.output) (h : ∀ b, b < W.heap.size → W'.heap[b]? = W.heap[b]?) : W.keptBut W' may := by
  refine ⟨ho, hp, fun i hi => ?_⟩
  rw [h i hi]
  split
  · rename_i e1 e2
    rw [e1] at e2
    simp only [Option.some.injEq, Obj.cells.injEq] at e2
    obtain ⟨rfl, rfl, rfl⟩ := e2
    exact ⟨rfl, rfl, rfl, fun _ _ => rfl⟩
  · rename_i e1 e2
    rw [e1] at e2
    simp only [Option.some.injEq, Obj.map.injEq] at e2
    obtain ⟨rfl, rfl⟩ := e2
    exact .inr ⟨rfl, rfl⟩
  · rfl

end Go.Proofs.Ytnoieadimkgjcaa
