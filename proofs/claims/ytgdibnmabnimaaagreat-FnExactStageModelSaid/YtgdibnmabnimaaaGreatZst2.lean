/- The row's reading of the arguments gives the reading of this proof; and what a law that returns true owes. -/
import Derived.Test.YtgdibnmabnimaaaGreatZst1
import Derived.Test.YtgdibnmabnimaaaGreatRows
import Derived.ProofKit
import Derived.ReadAgain
import Derived.Carry
import Derived.Test.YtgdibnmabnimaaaGreatData
import Derived.Test.YtgdibnmabnimaaaGreatFacts
import Derived.Test.YtgdibnmabnimaaaGreatZsth1
import Derived.Test.YtgdibnmabnimaaaGreatZst0
import Derived.Laws.BytesArg
import Derived.Laws.StructEq
import Derived.Laws.Tables
namespace Go.Proofs.YtgdibnmabnimaaaGreat
open Go Go.ChangeShapes Go.WideShapes Go.ChangeAt Go.RowKit

def heapS (W : World) : Store := fun b => W.heap[b]?
section
variable {H : Type} {enc : TypeId × Value → H} {P : Program} {W : World} {sp : Nat → Bool} {held : Bool}
theorem trod_int {t : TypeId} {fuel : Nat} {c : Value} {x : DataW H × List MemPlace} (ht : P.underlying t = some (.int .i64)) (h : DataW.trod enc P W 0 sp held fuel t [c] = some x) :
    ∃ n, c = .int .i64 n ∧ inI n := by
  cases fuel with
  | zero => simp [DataW.trod] at h
  | succ n =>
    unfold DataW.trod at h
    rw [ht] at h
    split at h <;> simp_all
    rename_i k1 k2 m he
    subst he
    obtain ⟨⟨_, h⟩, _⟩ := h
    simp only [Lit.wf, Bool.and_eq_true, decide_eq_true_eq] at h
    exact h
theorem trod_str {t : TypeId} {fuel : Nat} {c : Value} {x : DataW H × List MemPlace} (ht : P.underlying t = some .string) (h : DataW.trod enc P W 0 sp held fuel t [c] = some x) :
    ∃ s, c = .string s ∧ s.size ≤ maxLen := by
  cases fuel with
  | zero => simp [DataW.trod] at h
  | succ n =>
    unfold DataW.trod at h
    rw [ht] at h
    split at h <;> simp_all
theorem trod_flds {t : TypeId} {fuel : Nat} {l : List (Nat × TypeId)} {cs : List Value} {x : DataW H × List MemPlace} (ht : flds P t = some l) (h : DataW.trod enc P W 0 sp held fuel t cs = some x) :
    ∃ n, fuel = n + 1 ∧ cs.length = P.cellsOf t ∧ ∀ (i : Nat) (o : Nat) (u : TypeId), l[i]? = some (o, u) → ∃ y, DataW.trod enc P W 0 sp held n u ((cs.drop o).take (P.cellsOf u)) = some y := by
  unfold flds at ht
  split at ht
  · rename_i fs hfs
    obtain ⟨xs, n, hn, _, hl, hxs, hf⟩ := DataW.trod_struct hfs h
    refine ⟨n, hn, hl, fun i o u hi => ?_⟩
    simp only [Option.some.injEq] at ht
    subst ht
    rw [List.getElem?_map, Option.map_eq_some_iff] at hi
    obtain ⟨f, hfi, he⟩ := hi
    simp only [Prod.mk.injEq] at he
    obtain ⟨rfl, rfl⟩ := he
    have hfi' : fs[i]? = some f := by rw [← Array.getElem?_toList]; exact hfi
    have hlt : i < xs.length := by
      rw [hxs]
      exact (Array.getElem?_eq_some_iff.1 hfi').1
    have := hf i f hfi'
    rw [List.getElem?_eq_getElem hlt] at this
    exact ⟨_, this⟩
  · cases ht
theorem cell_spot {a : Addr} {v : Value} (h : W.cell? a = some v) : ∃ b o c E fz, a = ⟨b, o, none⟩ ∧ W.heap[b]? = some (.cells c E fz) ∧ c[o]? = some v := by
  obtain ⟨b, o, s⟩ := a
  simp only [World.cell?] at h
  split at h
  · rename_i c E fz hb
    cases s with
    | none => exact ⟨b, o, c, E, fz, rfl, hb, by simpa using h⟩
    | some s => simp at h
  · cases h
theorem cells_at {b o k : Nat} {cs : List Value} {c : Array Value} {E : TypeId} {fz : Nat × Nat} (hb : W.heap[b]? = some (.cells c E fz)) (h : W.cells? 0 ⟨b, o, none⟩ k = some cs) : cellsAt c o k = cs := by
  unfold World.cells? at h
  rw [if_pos (Nat.zero_le _)] at h
  have hl : cs.length = k := by simpa using mapM_some_length h
  apply List.ext_getElem?
  intro i
  rw [cellsAt, List.getElem?_take]
  by_cases hi : i < k
  · rw [if_pos hi, List.getElem?_drop]
    have := mapM_some_get h i i (by simp [hi])
    rw [← this, add_lit]
    simp [World.cell?, hb]
  · rw [if_neg hi, List.getElem?_eq_none (by omega)]
theorem exists_list {α : Type} (p : Nat → α → Prop) : ∀ n : Nat, (∀ i, i < n → ∃ t, p i t) → ∃ xs : List α, xs.length = n ∧ ∀ i (h : i < xs.length), p i xs[i]
  | 0, _ => ⟨[], rfl, fun i h => by simp at h⟩
  | n + 1, h => by
    obtain ⟨xs, hl, hx⟩ := exists_list p n fun i hi => h i (by omega)
    obtain ⟨t, ht⟩ := h n (by omega)
    refine ⟨xs ++ [t], by simp [hl], fun i hi => ?_⟩
    by_cases e : i < xs.length
    · rw [List.getElem_append_left e]
      exact hx i e
    · have : i = xs.length := by simp at hi; omega
      subst this
      simp only [List.getElem_append_right (Nat.le_refl _), Nat.sub_self, List.getElem_cons_zero]
      rw [hl]
      exact ht
theorem slice_parts {T e : TypeId} {k : Nat} (h : sliceOf P T = some (e, k)) : P.underlying T = some (.slice e) ∧ P.cellsOf e = k := by
  unfold sliceOf at h
  split at h
  · rename_i e' he
    rw [Option.map_eq_some_iff] at h
    obtain ⟨i, hi, hx⟩ := h
    simp only [Prod.mk.injEq] at hx
    obtain ⟨rfl, rfl⟩ := hx
    exact ⟨he, by simp [Program.cellsOf, hi]⟩
  · cases h
theorem trod_sl {α : Type} {R : List Value → α → Prop} {T e : TypeId} {k fuel : Nat} {v : Value} {x : DataW H × List MemPlace} (hu : sliceOf P T = some (e, k)) (hk0 : 0 < k)
    (h : DataW.trod enc P W 0 sp held fuel T [v] = some x) (hel : ∀ n cs y, fuel = n + 1 → DataW.trod enc P W 0 sp held n e cs = some y → ∃ t : α, R cs t) : ∃ xs, RdSl (heapS W) k R v xs := by
  obtain ⟨hu1, hk⟩ := slice_parts hu
  rcases DataW.trod_slice hu1 h with ⟨hcs, _⟩ | ⟨a, len, cap, elems, rest, n, hf, hcs, _, _, hl, hc, hlen, hE, _⟩
  · simp only [List.cons.injEq, and_true] at hcs
    subst hcs
    exact ⟨[], none, 0, rfl, Nat.le_refl _, Nat.zero_le _, .inl rfl⟩
  · simp only [List.cons.injEq, and_true] at hcs
    subst hcs
    have hE' : ∀ i, i < len → ∃ t : α, ∃ cs, W.cells? 0 (a.add (i * k)) k = some cs ∧ R cs t := by
      intro i hi
      have := hE i hi
      rw [hk, List.getElem?_eq_getElem (by omega), Option.bind_eq_some_iff] at this
      obtain ⟨cs, h1, h2⟩ := this
      obtain ⟨t, ht⟩ := hel n cs _ hf h2
      exact ⟨t, cs, h1, ht⟩
    obtain ⟨xs, hxl, hxs⟩ := exists_list _ len hE'
    subst hxl
    refine ⟨xs, some a, cap, rfl, hl, hc, ?_⟩
    by_cases h0 : xs.length = 0
    · exact .inl (List.eq_nil_of_length_eq_zero h0)
    · obtain ⟨cs0, h1, _⟩ := hxs 0 (by omega)
      have e0 : a.add (0 * k) = a := by rw [Nat.zero_mul]; simp [Addr.add]
      rw [e0] at h1
      have hc0 : ∃ u, W.cell? a = some u := by
        unfold World.cells? at h1
        rw [if_pos (Nat.zero_le _)] at h1
        have hl0 : cs0.length = k := by simpa using mapM_some_length h1
        have := mapM_some_get h1 0 0 (by simp [hk0])
        rw [List.getElem?_eq_getElem (by omega)] at this
        have e1 : a.add 0 = a := by simp [Addr.add]
        rw [e1] at this
        exact ⟨_, this⟩
      obtain ⟨u, hu0⟩ := hc0
      obtain ⟨b, o, c, E, fz, rfl, hb, _⟩ := cell_spot hu0
      refine .inr ⟨b, o, c, E, fz, rfl, hb, fun i hi => ?_⟩
      obtain ⟨cs, h2, hR⟩ := hxs i hi
      rw [add_lit] at h2
      rw [cells_at hb h2]
      exact hR
end

section
variable {H : Type} {enc : TypeId × Value → H} {W : World} {sp : Nat → Bool} {held : Bool}
theorem four {cs : List Value} (h : cs.length = 4) : ∃ a b c d, cs = [a, b, c, d] := by
  match cs, h with
  | [a, b, c, d], _ => exact ⟨a, b, c, d, rfl⟩
theorem five {cs : List Value} (h : cs.length = 5) : ∃ a b c d e, cs = [a, b, c, d, e] := by
  match cs, h with
  | [a, b, c, d, e], _ => exact ⟨a, b, c, d, e, rfl⟩
theorem trod_term : ∀ (fuel : Nat) (cs : List Value) (x : DataW H × List MemPlace), DataW.trod enc Tryz.prog W 0 sp held fuel t_lTerm cs = some x → ∃ t, RdT (heapS W) cs t := by
  intro fuel
  induction fuel using Nat.strongRecOn with
  | _ fuel ih =>
    intro cs x h
    obtain ⟨n, hn, hl, hf⟩ := trod_flds fl_lTerm h
    rw [co_lTerm] at hl
    obtain ⟨c0, c1, c2, c3, rfl⟩ := four hl
    obtain ⟨y0, h0⟩ := hf 0 _ _ rfl
    obtain ⟨y1, h1⟩ := hf 1 _ _ rfl
    obtain ⟨y2, h2⟩ := hf 2 _ _ rfl
    obtain ⟨y3, h3⟩ := hf 3 _ _ rfl
    rw [co_int] at h0 h1
    rw [co_string] at h2
    rw [co_SlTerm] at h3
    obtain ⟨k, rfl, hk⟩ := trod_int un_int h0
    obtain ⟨m, rfl, hm⟩ := trod_int un_int h1
    obtain ⟨s, rfl, hs⟩ := trod_str un_string h2
    obtain ⟨ks, hks⟩ := trod_sl (R := RdT (heapS W)) sl_SlTerm (by omega) h3 fun n' cs' y hn' hy => ih n' (by omega) cs' y hy
    exact ⟨.mk k m s ks, RdT.iff.2 ⟨c3, rfl, hk, hm, hs, hks⟩⟩
theorem trod_terms {fuel : Nat} {v : Value} {x : DataW H × List MemPlace} (h : DataW.trod enc Tryz.prog W 0 sp held fuel t_SlTerm [v] = some x) : ∃ ts, RdSl (heapS W) 4 (RdT (heapS W)) v ts :=
  trod_sl sl_SlTerm (by omega) h fun n' cs' y _ hy => trod_term n' cs' y hy
theorem trod_clause {fuel : Nat} {cs : List Value} {x : DataW H × List MemPlace} (h : DataW.trod enc Tryz.prog W 0 sp held fuel t_lClause cs = some x) : ∃ c, RdC (heapS W) cs c := by
  obtain ⟨n, hn, hl, hf⟩ := trod_flds fl_lClause h
  rw [co_lClause] at hl
  obtain ⟨y0, h0⟩ := hf 0 _ _ rfl
  obtain ⟨y1, h1⟩ := hf 1 _ _ rfl
  rw [co_lTerm] at h0
  rw [co_SlTerm] at h1
  obtain ⟨a, b, c, d, e, rfl⟩ := five hl
  obtain ⟨t, ht⟩ := trod_term _ [a, b, c, d] _ h0
  obtain ⟨ks, hks⟩ := trod_terms (v := e) h1
  exact ⟨⟨t, ks⟩, [a, b, c, d], e, rfl, ht, hks⟩
theorem trod_clauses {fuel : Nat} {v : Value} {x : DataW H × List MemPlace} (h : DataW.trod enc Tryz.prog W 0 sp held fuel t_SlClause [v] = some x) : ∃ p, RdSl (heapS W) 5 (RdC (heapS W)) v p :=
  trod_sl sl_SlClause (by omega) h fun _ _ _ _ hy => trod_clause hy
end

theorem Inv.entry (W : World) : Inv W [] [] (heapS W) W := Inv.start (L := []) (by simp) (by simp [feet]) fun b o hb => ⟨hb, by simp [feet]⟩
theorem Inv.same {W W' : World} {L : List Item} {S : Store} (h : Inv W [] L S W') (b : Nat) (hb : b < W.heap.size) : W'.heap[b]? = W.heap[b]? := h.old b hb (by simp)
theorem same_kept {W W' : World} {may : MemPlace → Prop} (ho : W'.os = W.os) (hp : W'.output = W.output) (h : ∀ b, b < W.heap.size → W'.heap[b]? = W.heap[b]?) : W.keptBut W' may := by
  refine ⟨ho, hp, fun i hi => ?_⟩
  rw [h i hi]
  split
  · rename_i e1 e2
    rw [e1] at e2
    simp only [Option.some.injEq, Obj.cells.injEq] at e2
    obtain ⟨rfl, rfl, rfl⟩ := e2
    exact ⟨rfl, rfl, rfl, fun _ _ => rfl⟩
  · rename_i e1 e2
    rw [e1] at e2
    simp only [Option.some.injEq, Obj.map.injEq] at e2
    obtain ⟨rfl, rfl⟩ := e2
    exact .inr ⟨rfl, rfl⟩
  · rfl

end Go.Proofs.YtgdibnmabnimaaaGreat

/- The sizes: laws.szTerm and its kin. -/
namespace Go.Proofs.YtgdibnmabnimaaaGreat
open Go Go.RowKit
attribute [local irreducible] Run CondV GuardV LoadV

mutual
def szT : T → Int → Int
  | .mk _ _ s ks, left => if left - s.size < 0 then -1 else if left - s.size - ks.length < 0 then -1 else szL ks (left - s.size - ks.length)
def szL : List T → Int → Int
  | [], left => left
  | t :: ts, left => if szT t left < 0 then -1 else szL ts (szT t left)
end
def szTs (ts : List T) (left : Int) : Int := if left - ts.length < 0 then -1 else szL ts (left - ts.length)

mutual
theorem szT_le : ∀ (t : T) (left : Int), 0 ≤ left → -1 ≤ szT t left ∧ szT t left ≤ left
  | .mk k n s ks, left, h => by
    simp only [szT]
    split
    · omega
    · split
      · omega
      · have := szL_le ks (left - s.size - ks.length) (by omega)
        omega
theorem szL_le : ∀ (ts : List T) (left : Int), 0 ≤ left → -1 ≤ szL ts left ∧ szL ts left ≤ left
  | [], left, h => by simp only [szL]; omega
  | t :: ts, left, h => by
    simp only [szL]
    have h1 := szT_le t left h
    split
    · omega
    · have h2 := szL_le ts (szT t left) (by omega)
      omega
end

theorem szTermS_of {ts : List T} (ih : ∀ t ∈ ts, ∀ (S : Store) (cs : List Value) (left : Int), RdT S cs t → 0 ≤ left → left ≤ 4611686018427387904 → Pure Tryz.prog n_l_szTerm [.agg cs.toArray, .int .i64 left] S (.int .i64 (szT t left)))
    {S : Store} {v : Value} {left : Int} (h : RdSl S 4 (RdT S) v ts) (h0 : 0 ≤ left) (h1 : left ≤ 4611686018427387904) : Pure Tryz.prog n_l_szTermS [v, .int .i64 left] S (.int .i64 (szTs ts left)) := by
  intro w hI
  have hlen : (ts.length : Int) ≤ 9223372036854775807 := by have := h.le; simp only [maxLen] at this; omega
  refine calls_l_szTermS ?_
  unfold sh_l_szTermS
  refine r_lenSl h sl_SlTerm ?_
  refine r_sub (by omega) ?_
  refine r_lss ?_
  refine condP (fun hlt => ?_) (fun hlt => ?_)
  · exact done hI (by rw [szTs, if_pos hlt])
  refine ⟨fun i l w' => ∃ (k : Nat) (l' : Int), k ≤ ts.length ∧ i = .int .i64 k ∧ l = .int .i64 l' ∧ 0 ≤ l' ∧ l' ≤ left ∧ szL (ts.drop k) l' = szL ts (left - ts.length) ∧ Inv w [] [] S w',
    fun i _ _ => ts.length - (intOf i).toNat, ⟨0, _, Nat.zero_le _, rfl, rfl, by omega, by omega, rfl, hI⟩, ?_⟩
  intro t5 _ _ _ _ _ t1 _ _ _ _ _ _ _ _ _ _ w'
  rintro ⟨k, l', hk, rfl, rfl, hl0, hl1, hrel, hI⟩
  refine r_lenSl h sl_SlTerm ?_
  refine r_lss ?_
  refine condP (fun hki => ?_) (fun hki => ?_)
  · have hk' : k < ts.length := by omega
    refine r_elem hI h sl_SlTerm ag_lTerm hk' (fun _ _ => RdT.length) fun cs hcs => ?_
    have hb := szT_le ts[k] l' hl0
    refine Run.callPure fn_l_szTerm nm_l_szTerm hI (ih _ (List.getElem_mem _) S cs l' hcs hl0 (by omega)) fun w' hI => ?_
    have hstep : szL (ts.drop k) l' = if szT ts[k] l' < 0 then -1 else szL (ts.drop (k + 1)) (szT ts[k] l') := by
      rw [List.drop_eq_getElem_cons hk', szL]
    refine r_lss ?_
    refine condP (fun hneg => ?_) (fun hneg => ?_)
    · exact done hI (by rw [szTs, if_neg hlt, ← hrel, hstep, if_pos hneg])
    · refine r_add (by omega) ?_
      refine ⟨⟨k + 1, _, hk', rfl, rfl, by omega, by omega, ?_, hI⟩, by simp [intOf]; omega⟩
      rw [← hrel, hstep, if_neg hneg]
  · have : k = ts.length := by omega
    subst this
    exact done hI (by rw [szTs, if_neg hlt, ← hrel, List.drop_length, szL])

theorem szTerm_calls : ∀ (t : T) (S : Store) (cs : List Value) (left : Int), RdT S cs t → 0 ≤ left → left ≤ 4611686018427387904 →
    Pure Tryz.prog n_l_szTerm [.agg cs.toArray, .int .i64 left] S (.int .i64 (szT t left)) := by
  refine T.ind fun k n s ks ih S cs left h h0 h1 => ?_
  intro w hI
  obtain ⟨kv, rfl, _, _, hs, hks⟩ := RdT.iff.1 h
  simp only [T.name, T.kids, T.kind, T.n] at hs hks ⊢
  simp only [maxLen] at hs
  have hlen : (ks.length : Int) ≤ 9223372036854775807 := by have := hks.le; simp only [maxLen] at this; omega
  refine calls_l_szTerm ?_
  unfold sh_l_szTerm
  refine r_box hI fun b w' hI => ?_
  refine r_fieldL hI 0 rfl fo_lTerm_2 sc_string rfl ?_
  refine r_lenStr un_string ?_
  refine r_sub (by omega) ?_
  refine r_lss ?_
  refine condP (fun hlt => ?_) (fun hlt => ?_)
  · exact done hI (by rw [szT, if_pos hlt])
  refine r_fieldL hI 0 rfl fo_lTerm_3 sc_SlTerm rfl ?_
  refine Run.callPure fn_l_szTermS nm_l_szTermS hI (szTermS_of ih hks (by omega) (by omega)) fun w' hI => ?_
  refine r_lss ?_
  refine condP (fun hneg => ?_) (fun hneg => ?_)
  · refine done hI ?_
    rw [szT, if_neg hlt]
    unfold szTs at hneg
    split
    · rfl
    · rename_i h3
      rw [if_neg h3] at hneg
      have := szL_le ks (left - s.size - ks.length) (by omega)
      congr 1; omega
  · refine done hI ?_
    rw [szT, if_neg hlt]
    rfl
theorem szTermS_calls {ts : List T} {S : Store} {v : Value} {left : Int} (h : RdSl S 4 (RdT S) v ts) (h0 : 0 ≤ left) (h1 : left ≤ 4611686018427387904) :
    Pure Tryz.prog n_l_szTermS [v, .int .i64 left] S (.int .i64 (szTs ts left)) := szTermS_of (fun t _ => szTerm_calls t) h h0 h1

end Go.Proofs.YtgdibnmabnimaaaGreat

/- Equality of terms and clauses as the laws ask it. -/
namespace Go.Proofs.YtgdibnmabnimaaaGreat
open Go Go.RowKit
attribute [local irreducible] Run CondV GuardV LoadV

mutual
def eqT : T → T → Bool
  | .mk k n s ks, .mk k' n' s' ks' => decide (k = k') && (decide (n = n') && (decide (s = s') && eqL ks ks'))
def eqL : List T → List T → Bool
  | [], [] => true
  | t :: ts, u :: us => eqT t u && eqL ts us
  | _, _ => false
end
mutual
theorem eqT_iff : ∀ a b : T, eqT a b = true ↔ a = b
  | .mk k n s ks, .mk k' n' s' ks' => by
    simp only [eqT, Bool.and_eq_true, decide_eq_true_eq, eqL_iff ks ks', T.mk.injEq]
theorem eqL_iff : ∀ a b : List T, eqL a b = true ↔ a = b
  | [], [] => by simp [eqL]
  | [], _ :: _ => by simp [eqL]
  | _ :: _, [] => by simp [eqL]
  | t :: ts, u :: us => by
    simp only [eqL, Bool.and_eq_true, eqT_iff t u, eqL_iff ts us, List.cons.injEq]
end
theorem eqL_len : ∀ {a b : List T}, a.length ≠ b.length → eqL a b = false := by
  intro a b h
  rw [← Bool.not_eq_true, eqL_iff]
  rintro rfl
  exact h rfl
def eqC (a b : C) : Bool := eqT a.head b.head && eqL a.body b.body
theorem eqC_iff (a b : C) : eqC a b = true ↔ a = b := by
  cases a; cases b
  simp only [eqC, Bool.and_eq_true, eqT_iff, eqL_iff, C.mk.injEq]
def eqP : List C → List C → Bool
  | [], [] => true
  | t :: ts, u :: us => eqC t u && eqP ts us
  | _, _ => false
theorem eqP_iff : ∀ a b : List C, eqP a b = true ↔ a = b
  | [], [] => by simp [eqP]
  | [], _ :: _ => by simp [eqP]
  | _ :: _, [] => by simp [eqP]
  | t :: ts, u :: us => by simp only [eqP, Bool.and_eq_true, eqC_iff, eqP_iff ts us, List.cons.injEq]
theorem eqP_len : ∀ {a b : List C}, a.length ≠ b.length → eqP a b = false := by
  intro a b h
  rw [← Bool.not_eq_true, eqP_iff]
  rintro rfl
  exact h rfl

theorem sub4 {a b c d e : Value} : ∀ (j : Nat) (v : Value), ([a, b, c, d] : List Value)[j]? = some v → (#[a, b, c, d, e] : Array Value)[0 + j]? = some v
  | 0, _, h | 1, _, h | 2, _, h | 3, _, h => h
  | j + 4, _, h => by simp at h

theorem eqTermS_of {xs : List T} (ih : ∀ t ∈ xs, ∀ (u : T) (S : Store) (cs ds : List Value), RdT S cs t → RdT S ds u → Pure Tryz.prog n_l_eqTerm [.agg cs.toArray, .agg ds.toArray] S (.bool (eqT t u)))
    {ys : List T} {S : Store} {v u : Value} (h : RdSl S 4 (RdT S) v xs) (h' : RdSl S 4 (RdT S) u ys) : Pure Tryz.prog n_l_eqTermS [v, u] S (.bool (eqL xs ys)) := by
  intro w hI
  have hlen : (xs.length : Int) ≤ 9223372036854775807 := by have := h.le; simp only [maxLen] at this; omega
  refine calls_l_eqTermS ?_
  unfold sh_l_eqTermS
  refine r_lenSl h sl_SiTerm ?_
  refine r_lenSl h' sl_SiTerm ?_
  refine r_neq ?_
  refine condV (fun hne => ?_) (fun he => ?_)
  · exact done hI (by rw [eqL_len (by simp at hne; omega)])
  have he : xs.length = ys.length := by simp at he; omega
  refine ⟨fun i w' => ∃ (k : Nat), k ≤ xs.length ∧ i = .int .i64 k ∧ eqL (xs.drop k) (ys.drop k) = eqL xs ys ∧ Inv w [] [] S w', fun i _ => xs.length - (intOf i).toNat, ⟨0, Nat.zero_le _, rfl, rfl, hI⟩, ?_⟩
  intro t5 _ _ _ _ _ _ _ _ _ _ _ _ _ _ _ _ _ w'
  rintro ⟨k, hk, rfl, hrel, hI⟩
  refine r_lenSl h sl_SiTerm ?_
  refine r_lss ?_
  refine condP (fun hki => ?_) (fun hki => ?_)
  · have hk1 : k < xs.length := by omega
    have hk2 : k < ys.length := by omega
    obtain ⟨b1, o1, cap1, c1, E1, fz1, rfl, hS1, hR1⟩ := h.at_ hk1
    obtain ⟨b2, o2, cap2, c2, E2, fz2, rfl, hS2, hR2⟩ := h'.at_ hk2
    have hstep : eqL (xs.drop k) (ys.drop k) = (eqT xs[k] ys[k] && eqL (xs.drop (k + 1)) (ys.drop (k + 1))) := by
      rw [List.drop_eq_getElem_cons hk1, List.drop_eq_getElem_cons hk2, eqL]
    refine ⟨fun D x26 x25 x24 x23 x22 x21 x20 x19 x18 x17 w_ => (D 0 = true → x17 = .slice (some ⟨b1, o1, none⟩) xs.length cap1) ∧ (D 1 = true → x18 = .int .i64 k) ∧ (D 2 = true → x19 = .pointer (some ⟨b1, o1 + k * 4, none⟩)) ∧ (D 3 = true → x20 = .agg (cellsAt c1 (o1 + k * 4) 4).toArray) ∧ (D 4 = true → x21 = .slice (some ⟨b2, o2, none⟩) ys.length cap2) ∧ (D 5 = true → x22 = .int .i64 k) ∧ (D 6 = true → x23 = .pointer (some ⟨b2, o2 + k * 4, none⟩)) ∧ (D 7 = true → x24 = .agg (cellsAt c2 (o2 + k * 4) 4).toArray) ∧ (D 8 = true → x25 = .bool (eqT xs[k] ys[k])) ∧ (D 9 = true → x26 = .bool (!eqT xs[k] ys[k])) ∧ Inv w [] [] S w_, ⟨fun h => Bool.noConfusion h, fun h => Bool.noConfusion h, fun h => Bool.noConfusion h, fun h => Bool.noConfusion h, fun h => Bool.noConfusion h, fun h => Bool.noConfusion h, fun h => Bool.noConfusion h, fun h => Bool.noConfusion h, fun h => Bool.noConfusion h, fun h => Bool.noConfusion h, hI.draw⟩, ⟨?_, ?_, ?_, ?_, ?_, ?_, ?_, ?_, ?_, ?_, trivial⟩, ?_⟩
    · intro D hD_  x26 x25 x24 x23 x22 x21 x20 x19 x18 x17 w_
      rintro ⟨h0_, h1_, h2_, h3_, h4_, h5_, h6_, h7_, h8_, h9_, hI⟩
      exact ⟨fun _ => rfl, h1_, h2_, h3_, h4_, h5_, h6_, h7_, h8_, h9_, hI⟩
    · intro D hD_  x26 x25 x24 x23 x22 x21 x20 x19 x18 x17 w_
      rintro ⟨h0_, h1_, h2_, h3_, h4_, h5_, h6_, h7_, h8_, h9_, hI⟩
      exact ⟨h0_, fun _ => rfl, h2_, h3_, h4_, h5_, h6_, h7_, h8_, h9_, hI⟩
    · intro D hD_ d0_0 d1_1 x26 x25 x24 x23 x22 x21 x20 x19 x18 x17 w_
      rintro ⟨h0_, h1_, h2_, h3_, h4_, h5_, h6_, h7_, h8_, h9_, hI⟩
      obtain rfl := h0_ d0_0
      obtain rfl := h1_ d1_1
      refine r_indexAddr sl_SiTerm hk1 ?_
      exact ⟨h0_, h1_, fun _ => rfl, h3_, h4_, h5_, h6_, h7_, h8_, h9_, hI⟩
    · intro D hD_ d2_0 x26 x25 x24 x23 x22 x21 x20 x19 x18 x17 w_
      rintro ⟨h0_, h1_, h2_, h3_, h4_, h5_, h6_, h7_, h8_, h9_, hI⟩
      obtain rfl := h2_ d2_0
      refine r_loadA ag_iTerm hR1.length (fun j v hj => by rw [hI.cellS hS1]; exact cellsAt_get rfl j v hj) ?_
      exact ⟨h0_, h1_, h2_, fun _ => rfl, h4_, h5_, h6_, h7_, h8_, h9_, hI⟩
    · intro D hD_  x26 x25 x24 x23 x22 x21 x20 x19 x18 x17 w_
      rintro ⟨h0_, h1_, h2_, h3_, h4_, h5_, h6_, h7_, h8_, h9_, hI⟩
      exact ⟨h0_, h1_, h2_, h3_, fun _ => rfl, h5_, h6_, h7_, h8_, h9_, hI⟩
    · intro D hD_  x26 x25 x24 x23 x22 x21 x20 x19 x18 x17 w_
      rintro ⟨h0_, h1_, h2_, h3_, h4_, h5_, h6_, h7_, h8_, h9_, hI⟩
      exact ⟨h0_, h1_, h2_, h3_, h4_, fun _ => rfl, h6_, h7_, h8_, h9_, hI⟩
    · intro D hD_ d4_0 d5_1 x26 x25 x24 x23 x22 x21 x20 x19 x18 x17 w_
      rintro ⟨h0_, h1_, h2_, h3_, h4_, h5_, h6_, h7_, h8_, h9_, hI⟩
      obtain rfl := h4_ d4_0
      obtain rfl := h5_ d5_1
      refine r_indexAddr sl_SiTerm hk2 ?_
      exact ⟨h0_, h1_, h2_, h3_, h4_, h5_, fun _ => rfl, h7_, h8_, h9_, hI⟩
    · intro D hD_ d6_0 x26 x25 x24 x23 x22 x21 x20 x19 x18 x17 w_
      rintro ⟨h0_, h1_, h2_, h3_, h4_, h5_, h6_, h7_, h8_, h9_, hI⟩
      obtain rfl := h6_ d6_0
      refine r_loadA ag_iTerm hR2.length (fun j v hj => by rw [hI.cellS hS2]; exact cellsAt_get rfl j v hj) ?_
      exact ⟨h0_, h1_, h2_, h3_, h4_, h5_, h6_, fun _ => rfl, h8_, h9_, hI⟩
    · intro D hD_ d3_0 d7_1 x26 x25 x24 x23 x22 x21 x20 x19 x18 x17 w_
      rintro ⟨h0_, h1_, h2_, h3_, h4_, h5_, h6_, h7_, h8_, h9_, hI⟩
      obtain rfl := h3_ d3_0
      obtain rfl := h7_ d7_1
      refine Run.callPure fn_l_eqTerm nm_l_eqTerm hI (ih _ (List.getElem_mem hk1) _ S _ _ hR1 hR2) fun w_ hI => ?_
      exact ⟨h0_, h1_, h2_, h3_, h4_, h5_, h6_, h7_, fun _ => rfl, h9_, hI⟩
    · intro D hD_ d8_0 x26 x25 x24 x23 x22 x21 x20 x19 x18 x17 w_
      rintro ⟨h0_, h1_, h2_, h3_, h4_, h5_, h6_, h7_, h8_, h9_, hI⟩
      obtain rfl := h8_ d8_0
      refine r_not ?_
      exact ⟨h0_, h1_, h2_, h3_, h4_, h5_, h6_, h7_, h8_, fun _ => rfl, hI⟩
    intro D d9_ d8_ d7_ d6_ d5_ d4_ d3_ d2_ d1_ d0_ x26 x25 x24 x23 x22 x21 x20 x19 x18 x17 w_
    rintro ⟨h0_, h1_, h2_, h3_, h4_, h5_, h6_, h7_, h8_, h9_, hI⟩
    obtain rfl := h9_ d9_
    obtain rfl := h8_ d8_
    obtain rfl := h7_ d7_
    obtain rfl := h6_ d6_
    obtain rfl := h5_ d5_
    obtain rfl := h4_ d4_
    obtain rfl := h3_ d3_
    obtain rfl := h2_ d2_
    obtain rfl := h1_ d1_
    obtain rfl := h0_ d0_
    clear h0_ h1_ h2_ h3_ h4_ h5_ h6_ h7_ h8_ h9_
    refine condV (fun hne => ?_) (fun he' => ?_)
    · exact done hI (by rw [← hrel, hstep]; simp at hne; rw [hne]; rfl)
    · refine r_add (by omega) ?_
      refine ⟨⟨k + 1, hk1, rfl, ?_, hI⟩, by simp [intOf]; omega⟩
      rw [← hrel, hstep]
      simp at he'
      rw [he', Bool.true_and]
  · have : k = xs.length := by omega
    subst this
    refine done hI ?_
    rw [← hrel, List.drop_length, he, List.drop_length]
    rfl
theorem eqTerm_calls : ∀ (t u : T) (S : Store) (cs ds : List Value), RdT S cs t → RdT S ds u → Pure Tryz.prog n_l_eqTerm [.agg cs.toArray, .agg ds.toArray] S (.bool (eqT t u)) := by
  refine T.ind fun k n s ks ih u S cs ds h h' => ?_
  intro w hI
  obtain ⟨kv, rfl, _, _, _, hks⟩ := RdT.iff.1 h
  obtain ⟨kv', rfl, _, _, _, hks'⟩ := RdT.iff.1 h'
  obtain ⟨k', n', s', ks'⟩ := u
  simp only [T.name, T.kids, T.kind, T.n] at hks hks' ⊢
  refine calls_l_eqTerm ?_
  unfold sh_l_eqTerm
  refine r_box hI fun b1 w' hI => ?_
  refine r_box hI fun b2 w' hI => ?_
  refine r_fieldL hI 0 rfl fo_iTerm_0 sc_int rfl ?_
  refine r_fieldL hI 1 rfl fo_iTerm_0 sc_int rfl ?_
  refine r_neq ?_
  refine condV (fun hne => done hI ?_) (fun e1 => ?_)
  · simp at hne; simp [eqT, hne]
  refine r_fieldL hI 0 rfl fo_iTerm_1 sc_int rfl ?_
  refine r_fieldL hI 1 rfl fo_iTerm_1 sc_int rfl ?_
  refine r_neq ?_
  refine condV (fun hne => done hI ?_) (fun e2 => ?_)
  · simp at hne; simp [eqT, hne]
  refine r_fieldL hI 0 rfl fo_iTerm_2 sc_string rfl ?_
  refine r_fieldL hI 1 rfl fo_iTerm_2 sc_string rfl ?_
  refine r_sneq ?_
  refine condV (fun hne => done hI ?_) (fun e3 => ?_)
  · simp at hne; simp [eqT, hne]
  refine r_fieldL hI 0 rfl fo_iTerm_3 sc_SiTerm rfl ?_
  refine r_fieldL hI 1 rfl fo_iTerm_3 sc_SiTerm rfl ?_
  refine Run.callPure fn_l_eqTermS nm_l_eqTermS hI (eqTermS_of ih hks hks') fun w' hI => ?_
  refine r_not ?_
  simp at e1 e2 e3
  refine condV (fun hne => done hI ?_) (fun e4 => done hI ?_)
  · simp at hne; simp [eqT, hne]
  · simp at e4; simp [eqT, e1, e2, e3, e4]
theorem eqTermS_calls {xs ys : List T} {S : Store} {v u : Value} (h : RdSl S 4 (RdT S) v xs) (h' : RdSl S 4 (RdT S) u ys) : Pure Tryz.prog n_l_eqTermS [v, u] S (.bool (eqL xs ys)) :=
  eqTermS_of (fun t _ u => eqTerm_calls t u) h h'
theorem eqClause_calls {a b : C} {S : Store} {cs ds : List Value} (h : RdC S cs a) (h' : RdC S ds b) : Pure Tryz.prog n_l_eqClause [.agg cs.toArray, .agg ds.toArray] S (.bool (eqC a b)) := by
  intro w hI
  obtain ⟨hd, ks, rfl, h1, h2⟩ := h
  obtain ⟨hd', ks', rfl, h1', h2'⟩ := h'
  obtain ⟨kv, rfl, _⟩ := RdT.iff.1 h1
  obtain ⟨kv', rfl, _⟩ := RdT.iff.1 h1'
  refine calls_l_eqClause ?_
  unfold sh_l_eqClause
  refine r_box hI fun b1 w' hI => ?_
  refine r_box hI fun b2 w' hI => ?_
  refine r_field fo_iClause_0 ?_
  refine r_loadLA hI 0 [_, _, _, _] ag_iTerm rfl rfl sub4 ?_
  refine r_field fo_iClause_0 ?_
  refine r_loadLA hI 1 [_, _, _, _] ag_iTerm rfl rfl sub4 ?_
  refine Run.callPure fn_l_eqTerm nm_l_eqTerm hI (eqTerm_calls _ _ S _ _ h1 h1') fun w' hI => ?_
  refine r_not ?_
  refine condV (fun hne => done hI ?_) (fun e1 => ?_)
  · simp at hne; simp [eqC, hne]
  refine r_fieldL hI 0 rfl fo_iClause_1 sc_SiTerm rfl ?_
  refine r_fieldL hI 1 rfl fo_iClause_1 sc_SiTerm rfl ?_
  refine Run.callPure fn_l_eqTermS nm_l_eqTermS hI (eqTermS_calls h2 h2') fun w' hI => ?_
  refine r_not ?_
  simp at e1
  refine condV (fun hne => done hI ?_) (fun e4 => done hI ?_)
  · simp at hne; simp [eqC, hne]
  · simp at e4; simp [eqC, e1, e4]
theorem eqClauseS_calls {xs ys : List C} {S : Store} {v u : Value} (h : RdSl S 5 (RdC S) v xs) (h' : RdSl S 5 (RdC S) u ys) : Pure Tryz.prog n_l_eqClauseS [v, u] S (.bool (eqP xs ys)) := by
  intro w hI
  have hlen : (xs.length : Int) ≤ 9223372036854775807 := by have := h.le; simp only [maxLen] at this; omega
  refine calls_l_eqClauseS ?_
  unfold sh_l_eqClauseS
  refine r_lenSl h sl_SiClause ?_
  refine r_lenSl h' sl_SiClause ?_
  refine r_neq ?_
  refine condV (fun hne => ?_) (fun he => ?_)
  · exact done hI (by rw [eqP_len (by simp at hne; omega)])
  have he : xs.length = ys.length := by simp at he; omega
  refine ⟨fun i w' => ∃ (k : Nat), k ≤ xs.length ∧ i = .int .i64 k ∧ eqP (xs.drop k) (ys.drop k) = eqP xs ys ∧ Inv w [] [] S w', fun i _ => xs.length - (intOf i).toNat, ⟨0, Nat.zero_le _, rfl, rfl, hI⟩, ?_⟩
  intro t5 _ _ _ _ _ _ _ _ _ _ _ _ _ _ _ _ _ w'
  rintro ⟨k, hk, rfl, hrel, hI⟩
  refine r_lenSl h sl_SiClause ?_
  refine r_lss ?_
  refine condP (fun hki => ?_) (fun hki => ?_)
  · have hk1 : k < xs.length := by omega
    have hk2 : k < ys.length := by omega
    obtain ⟨b1, o1, cap1, c1, E1, fz1, rfl, hS1, hR1⟩ := h.at_ hk1
    obtain ⟨b2, o2, cap2, c2, E2, fz2, rfl, hS2, hR2⟩ := h'.at_ hk2
    have hstep : eqP (xs.drop k) (ys.drop k) = (eqC xs[k] ys[k] && eqP (xs.drop (k + 1)) (ys.drop (k + 1))) := by
      rw [List.drop_eq_getElem_cons hk1, List.drop_eq_getElem_cons hk2, eqP]
    refine ⟨fun D x26 x25 x24 x23 x22 x21 x20 x19 x18 x17 w_ => (D 0 = true → x17 = .slice (some ⟨b1, o1, none⟩) xs.length cap1) ∧ (D 1 = true → x18 = .int .i64 k) ∧ (D 2 = true → x19 = .pointer (some ⟨b1, o1 + k * 5, none⟩)) ∧ (D 3 = true → x20 = .agg (cellsAt c1 (o1 + k * 5) 5).toArray) ∧ (D 4 = true → x21 = .slice (some ⟨b2, o2, none⟩) ys.length cap2) ∧ (D 5 = true → x22 = .int .i64 k) ∧ (D 6 = true → x23 = .pointer (some ⟨b2, o2 + k * 5, none⟩)) ∧ (D 7 = true → x24 = .agg (cellsAt c2 (o2 + k * 5) 5).toArray) ∧ (D 8 = true → x25 = .bool (eqC xs[k] ys[k])) ∧ (D 9 = true → x26 = .bool (!eqC xs[k] ys[k])) ∧ Inv w [] [] S w_, ⟨fun h => Bool.noConfusion h, fun h => Bool.noConfusion h, fun h => Bool.noConfusion h, fun h => Bool.noConfusion h, fun h => Bool.noConfusion h, fun h => Bool.noConfusion h, fun h => Bool.noConfusion h, fun h => Bool.noConfusion h, fun h => Bool.noConfusion h, fun h => Bool.noConfusion h, hI.draw⟩, ⟨?_, ?_, ?_, ?_, ?_, ?_, ?_, ?_, ?_, ?_, trivial⟩, ?_⟩
    · intro D hD_  x26 x25 x24 x23 x22 x21 x20 x19 x18 x17 w_
      rintro ⟨h0_, h1_, h2_, h3_, h4_, h5_, h6_, h7_, h8_, h9_, hI⟩
      exact ⟨fun _ => rfl, h1_, h2_, h3_, h4_, h5_, h6_, h7_, h8_, h9_, hI⟩
    · intro D hD_  x26 x25 x24 x23 x22 x21 x20 x19 x18 x17 w_
      rintro ⟨h0_, h1_, h2_, h3_, h4_, h5_, h6_, h7_, h8_, h9_, hI⟩
      exact ⟨h0_, fun _ => rfl, h2_, h3_, h4_, h5_, h6_, h7_, h8_, h9_, hI⟩
    · intro D hD_ d0_0 d1_1 x26 x25 x24 x23 x22 x21 x20 x19 x18 x17 w_
      rintro ⟨h0_, h1_, h2_, h3_, h4_, h5_, h6_, h7_, h8_, h9_, hI⟩
      obtain rfl := h0_ d0_0
      obtain rfl := h1_ d1_1
      refine r_indexAddr sl_SiClause hk1 ?_
      exact ⟨h0_, h1_, fun _ => rfl, h3_, h4_, h5_, h6_, h7_, h8_, h9_, hI⟩
    · intro D hD_ d2_0 x26 x25 x24 x23 x22 x21 x20 x19 x18 x17 w_
      rintro ⟨h0_, h1_, h2_, h3_, h4_, h5_, h6_, h7_, h8_, h9_, hI⟩
      obtain rfl := h2_ d2_0
      refine r_loadA ag_iClause hR1.length (fun j v hj => by rw [hI.cellS hS1]; exact cellsAt_get rfl j v hj) ?_
      exact ⟨h0_, h1_, h2_, fun _ => rfl, h4_, h5_, h6_, h7_, h8_, h9_, hI⟩
    · intro D hD_  x26 x25 x24 x23 x22 x21 x20 x19 x18 x17 w_
      rintro ⟨h0_, h1_, h2_, h3_, h4_, h5_, h6_, h7_, h8_, h9_, hI⟩
      exact ⟨h0_, h1_, h2_, h3_, fun _ => rfl, h5_, h6_, h7_, h8_, h9_, hI⟩
    · intro D hD_  x26 x25 x24 x23 x22 x21 x20 x19 x18 x17 w_
      rintro ⟨h0_, h1_, h2_, h3_, h4_, h5_, h6_, h7_, h8_, h9_, hI⟩
      exact ⟨h0_, h1_, h2_, h3_, h4_, fun _ => rfl, h6_, h7_, h8_, h9_, hI⟩
    · intro D hD_ d4_0 d5_1 x26 x25 x24 x23 x22 x21 x20 x19 x18 x17 w_
      rintro ⟨h0_, h1_, h2_, h3_, h4_, h5_, h6_, h7_, h8_, h9_, hI⟩
      obtain rfl := h4_ d4_0
      obtain rfl := h5_ d5_1
      refine r_indexAddr sl_SiClause hk2 ?_
      exact ⟨h0_, h1_, h2_, h3_, h4_, h5_, fun _ => rfl, h7_, h8_, h9_, hI⟩
    · intro D hD_ d6_0 x26 x25 x24 x23 x22 x21 x20 x19 x18 x17 w_
      rintro ⟨h0_, h1_, h2_, h3_, h4_, h5_, h6_, h7_, h8_, h9_, hI⟩
      obtain rfl := h6_ d6_0
      refine r_loadA ag_iClause hR2.length (fun j v hj => by rw [hI.cellS hS2]; exact cellsAt_get rfl j v hj) ?_
      exact ⟨h0_, h1_, h2_, h3_, h4_, h5_, h6_, fun _ => rfl, h8_, h9_, hI⟩
    · intro D hD_ d3_0 d7_1 x26 x25 x24 x23 x22 x21 x20 x19 x18 x17 w_
      rintro ⟨h0_, h1_, h2_, h3_, h4_, h5_, h6_, h7_, h8_, h9_, hI⟩
      obtain rfl := h3_ d3_0
      obtain rfl := h7_ d7_1
      refine Run.callPure fn_l_eqClause nm_l_eqClause hI (eqClause_calls hR1 hR2) fun w_ hI => ?_
      exact ⟨h0_, h1_, h2_, h3_, h4_, h5_, h6_, h7_, fun _ => rfl, h9_, hI⟩
    · intro D hD_ d8_0 x26 x25 x24 x23 x22 x21 x20 x19 x18 x17 w_
      rintro ⟨h0_, h1_, h2_, h3_, h4_, h5_, h6_, h7_, h8_, h9_, hI⟩
      obtain rfl := h8_ d8_0
      refine r_not ?_
      exact ⟨h0_, h1_, h2_, h3_, h4_, h5_, h6_, h7_, h8_, fun _ => rfl, hI⟩
    intro D d9_ d8_ d7_ d6_ d5_ d4_ d3_ d2_ d1_ d0_ x26 x25 x24 x23 x22 x21 x20 x19 x18 x17 w_
    rintro ⟨h0_, h1_, h2_, h3_, h4_, h5_, h6_, h7_, h8_, h9_, hI⟩
    obtain rfl := h9_ d9_
    obtain rfl := h8_ d8_
    obtain rfl := h7_ d7_
    obtain rfl := h6_ d6_
    obtain rfl := h5_ d5_
    obtain rfl := h4_ d4_
    obtain rfl := h3_ d3_
    obtain rfl := h2_ d2_
    obtain rfl := h1_ d1_
    obtain rfl := h0_ d0_
    clear h0_ h1_ h2_ h3_ h4_ h5_ h6_ h7_ h8_ h9_
    refine condV (fun hne => ?_) (fun he' => ?_)
    · exact done hI (by rw [← hrel, hstep]; simp at hne; rw [hne]; rfl)
    · refine r_add (by omega) ?_
      refine ⟨⟨k + 1, hk1, rfl, ?_, hI⟩, by simp [intOf]; omega⟩
      rw [← hrel, hstep]
      simp at he'
      rw [he', Bool.true_and]
  · have : k = xs.length := by omega
    subst this
    refine done hI ?_
    rw [← hrel, List.drop_length, he, List.drop_length]
    rfl

end Go.Proofs.YtgdibnmabnimaaaGreat

/- The sizes of clauses and of programs, and what they bound. -/
namespace Go.Proofs.YtgdibnmabnimaaaGreat
open Go Go.RowKit
attribute [local irreducible] Run CondV GuardV LoadV

def szC (c : C) (left : Int) : Int := if szT c.head left < 0 then -1 else if szTs c.body (szT c.head left) < 0 then -1 else szTs c.body (szT c.head left)
def szP : List C → Int → Int
  | [], left => left
  | c :: cs, left => if szC c left < 0 then -1 else szP cs (szC c left)
def szPs (p : List C) (left : Int) : Int := if left - p.length < 0 then -1 else szP p (left - p.length)

mutual
theorem sz_wT : ∀ (t : T) (left : Int), 0 ≤ left → 0 ≤ szT t left → szT t left + wT t ≤ left
  | .mk k n s ks, left, h, h2 => by
    simp only [szT] at h2 ⊢
    rw [wT]
    split at h2
    · omega
    · rename_i h3
      rw [if_neg h3]
      split at h2
      · omega
      · rename_i h4
        rw [if_neg h4]
        have := sz_wL ks _ (by omega) h2
        omega
theorem sz_wL : ∀ (ts : List T) (left : Int), 0 ≤ left → 0 ≤ szL ts left → szL ts left + wL ts ≤ left
  | [], left, h, h2 => by simp [szL, wL]
  | t :: ts, left, h, h2 => by
    simp only [szL] at h2 ⊢
    rw [wL]
    split at h2
    · omega
    · rename_i h3
      rw [if_neg h3]
      have h4 := sz_wT t left h (by omega)
      have h5 := sz_wL ts _ (by omega) h2
      omega
end
theorem szTs_le (ts : List T) (left : Int) (h : 0 ≤ left) : -1 ≤ szTs ts left ∧ szTs ts left ≤ left := by
  unfold szTs
  split
  · omega
  · have := szL_le ts (left - ts.length) (by omega)
    omega
theorem sz_wTs {ts : List T} {left : Int} (h2 : 0 ≤ szTs ts left) : szTs ts left + (ts.length + wL ts) ≤ left := by
  unfold szTs at h2 ⊢
  split at h2
  · omega
  · rename_i h3
    rw [if_neg h3]
    have := sz_wL ts _ (by omega) h2
    omega
theorem szC_le (c : C) (left : Int) (h : 0 ≤ left) : -1 ≤ szC c left ∧ szC c left ≤ left := by
  unfold szC
  have h1 := szT_le c.head left h
  split
  · omega
  · have h2 := szTs_le c.body (szT c.head left) (by omega)
    split <;> omega
theorem sz_wC {c : C} {left : Int} (h : 0 ≤ left) (h2 : 0 ≤ szC c left) : szC c left + wC c ≤ left := by
  unfold szC at h2 ⊢
  unfold wC
  have h1 := szT_le c.head left h
  split at h2
  · omega
  · rename_i h3
    rw [if_neg h3]
    split at h2
    · omega
    · rename_i h4
      rw [if_neg h4]
      have := sz_wT c.head left h (by omega)
      have := sz_wTs (ts := c.body) (left := szT c.head left) h2
      omega
theorem szP_le : ∀ (p : List C) (left : Int), 0 ≤ left → -1 ≤ szP p left ∧ szP p left ≤ left
  | [], left, h => by simp only [szP]; omega
  | c :: cs, left, h => by
    simp only [szP]
    have h1 := szC_le c left h
    split
    · omega
    · have := szP_le cs (szC c left) (by omega)
      omega
theorem sz_wP : ∀ (p : List C) (left : Int), 0 ≤ left → 0 ≤ szP p left → szP p left + wP p ≤ left
  | [], left, h, h2 => by simp [szP, wP]
  | c :: cs, left, h, h2 => by
    simp only [szP] at h2 ⊢
    rw [wP]
    split at h2
    · omega
    · rename_i h3
      rw [if_neg h3]
      have h4 := sz_wC (c := c) h (by omega)
      have h5 := sz_wP cs _ (by omega) h2
      omega
theorem szPs_le (p : List C) (left : Int) (h : 0 ≤ left) : -1 ≤ szPs p left ∧ szPs p left ≤ left := by
  unfold szPs
  split
  · omega
  · have := szP_le p (left - p.length) (by omega)
    omega
theorem sz_wPs {p : List C} {left : Int} (h2 : 0 ≤ szPs p left) : szPs p left + (p.length + wP p) ≤ left := by
  unfold szPs at h2 ⊢
  split at h2
  · omega
  · rename_i h3
    rw [if_neg h3]
    have := sz_wP p _ (by omega) h2
    omega

theorem szClause_calls {c : C} {S : Store} {cs : List Value} {left : Int} (h : RdC S cs c) (h0 : 0 ≤ left) (h1 : left ≤ 4611686018427387904) : Pure Tryz.prog n_l_szClause [.agg cs.toArray, .int .i64 left] S (.int .i64 (szC c left)) := by
  intro w hI
  obtain ⟨hd, ks, rfl, g1, g2⟩ := h
  have g1' := g1
  obtain ⟨kv, rfl, _⟩ := RdT.iff.1 g1
  have hb := szT_le c.head left h0
  refine calls_l_szClause ?_
  unfold sh_l_szClause
  refine r_box hI fun b1 w' hI => ?_
  refine r_field fo_lClause_0 ?_
  refine r_loadLA hI 0 [.int .i64 c.head.kind, .int .i64 c.head.n, .string c.head.name, kv] ag_lTerm rfl rfl sub4 ?_
  refine Run.callPure fn_l_szTerm nm_l_szTerm hI (szTerm_calls _ S _ left g1' h0 h1) fun w' hI => ?_
  refine r_lss ?_
  refine condP (fun hlt => done hI (by rw [szC, if_pos hlt])) (fun hlt => ?_)
  refine r_fieldL hI 0 rfl fo_lClause_1 sc_SlTerm rfl ?_
  refine Run.callPure fn_l_szTermS nm_l_szTermS hI (szTermS_calls g2 (by omega) (by omega)) fun w' hI => ?_
  refine r_lss ?_
  refine condP (fun hlt2 => done hI (by rw [szC, if_neg hlt, if_pos hlt2])) (fun hlt2 => done hI (by rw [szC, if_neg hlt, if_neg hlt2]))
theorem szClauseS_calls {p : List C} {S : Store} {v : Value} {left : Int} (h : RdSl S 5 (RdC S) v p) (h0 : 0 ≤ left) (h1 : left ≤ 4611686018427387904) : Pure Tryz.prog n_l_szClauseS [v, .int .i64 left] S (.int .i64 (szPs p left)) := by
  intro w hI
  have hlen : (p.length : Int) ≤ 9223372036854775807 := by have := h.le; simp only [maxLen] at this; omega
  refine calls_l_szClauseS ?_
  unfold sh_l_szClauseS
  refine r_lenSl h sl_SlClause ?_
  refine r_sub (by omega) ?_
  refine r_lss ?_
  refine condP (fun hlt => ?_) (fun hlt => ?_)
  · exact done hI (by rw [szPs, if_pos hlt])
  refine ⟨fun i l w' => ∃ (k : Nat) (l' : Int), k ≤ p.length ∧ i = .int .i64 k ∧ l = .int .i64 l' ∧ 0 ≤ l' ∧ l' ≤ left ∧ szP (p.drop k) l' = szP p (left - p.length) ∧ Inv w [] [] S w',
    fun i _ _ => p.length - (intOf i).toNat, ⟨0, _, Nat.zero_le _, rfl, rfl, by omega, by omega, rfl, hI⟩, ?_⟩
  intro t5 _ _ _ _ _ t1 _ _ _ _ _ _ _ _ _ _ w'
  rintro ⟨k, l', hk, rfl, rfl, hl0, hl1, hrel, hI⟩
  refine r_lenSl h sl_SlClause ?_
  refine r_lss ?_
  refine condP (fun hki => ?_) (fun hki => ?_)
  · have hk' : k < p.length := by omega
    refine r_elem hI h sl_SlClause ag_lClause hk' (fun _ _ => RdC.length) fun cs hcs => ?_
    have hb := szC_le p[k] l' hl0
    refine Run.callPure fn_l_szClause nm_l_szClause hI (szClause_calls hcs hl0 (by omega)) fun w' hI => ?_
    have hstep : szP (p.drop k) l' = if szC p[k] l' < 0 then -1 else szP (p.drop (k + 1)) (szC p[k] l') := by
      rw [List.drop_eq_getElem_cons hk', szP]
    refine r_lss ?_
    refine condP (fun hneg => ?_) (fun hneg => ?_)
    · exact done hI (by rw [szPs, if_neg hlt, ← hrel, hstep, if_pos hneg])
    · refine r_add (by omega) ?_
      refine ⟨⟨k + 1, _, hk', rfl, rfl, by omega, by omega, ?_, hI⟩, by simp [intOf]; omega⟩
      rw [← hrel, hstep, if_neg hneg]
  · have : k = p.length := by omega
    subst this
    exact done hI (by rw [szPs, if_neg hlt, ← hrel, List.drop_length, szP])

/- toClauseS, and what it made published -/
theorem Run.toClauseS {w w0 : World} {X : List Nat} {L : List Item} {S : Store} {K : Value → World → Prop} {p : List C} {v : Value} (hI : Inv w0 X L S w) (h : RdSl S 5 (RdC S) v p) (hw : p.length + wP p ≤ 1048576)
    (hk : ∀ v' S' w', Sle S S' → RdSl S' 5 (RdC S') v' p → Inv w0 X L S' w' → K v' w') : Run Tryz.prog (sCall (.func (.func n_l_toClauseS) #[] #[]) [v]) w K := by
  refine Run.call0 fn_l_toClauseS nm_l_toClauseS hI (toClauseS_calls h hw) fun v' I' S' w' => ?_
  rintro ⟨rfl, M, rfl, hT⟩ _ hI
  obtain ⟨S2, hI, hle, hins, _⟩ := Inv.publishAll M hI
  exact hk _ _ _ hle (hT.rd hins fun _ _ _ hi h => h.rd hi) hI
theorem Run.toClause {w w0 : World} {X : List Nat} {L : List Item} {S : Store} {K : Value → World → Prop} {c : C} {cs : List Value} (hI : Inv w0 X L S w) (h : RdC S cs c) (hw : wC c ≤ 1048576)
    (hk : ∀ cs' S' w', Sle S S' → RdC S' cs' c → Inv w0 X L S' w' → K (.agg cs'.toArray) w') : Run Tryz.prog (sCall (.func (.func n_l_toClause) #[] #[]) [.agg cs.toArray]) w K := by
  refine Run.call0 fn_l_toClause nm_l_toClause hI (toClause_calls h hw) fun v' I' S' w' => ?_
  rintro ⟨rfl, cs', M, rfl, rfl, hT⟩ _ hI
  obtain ⟨S2, hI, hle, hins, _⟩ := Inv.publishAll M hI
  exact hk _ _ _ hle (hT.rd hins) hI
theorem Run.toTerm {w w0 : World} {X : List Nat} {L : List Item} {S : Store} {K : Value → World → Prop} {t : T} {cs : List Value} (hI : Inv w0 X L S w) (h : RdT S cs t) (hw : wT t ≤ 1048576)
    (hk : ∀ cs' S' w', Sle S S' → RdT S' cs' t → Inv w0 X L S' w' → K (.agg cs'.toArray) w') : Run Tryz.prog (sCall (.func (.func n_l_toTerm) #[] #[]) [.agg cs.toArray]) w K := by
  refine Run.call0 fn_l_toTerm nm_l_toTerm hI (toTerm_calls _ S _ h hw) fun v' I' S' w' => ?_
  rintro ⟨rfl, cs', M, rfl, rfl, hT⟩ _ hI
  obtain ⟨S2, hI, hle, hins, _⟩ := Inv.publishAll M hI
  exact hk _ _ _ hle (hT.rd hins) hI
theorem Run.toTermS {w w0 : World} {X : List Nat} {L : List Item} {S : Store} {K : Value → World → Prop} {p : List T} {v : Value} (hI : Inv w0 X L S w) (h : RdSl S 4 (RdT S) v p) (hw : p.length + wL p ≤ 1048576)
    (hk : ∀ v' S' w', Sle S S' → RdSl S' 4 (RdT S') v' p → Inv w0 X L S' w' → K v' w') : Run Tryz.prog (sCall (.func (.func n_l_toTermS) #[] #[]) [v]) w K := by
  refine Run.call0 fn_l_toTermS nm_l_toTermS hI (toTermS_calls h hw) fun v' I' S' w' => ?_
  rintro ⟨rfl, M, rfl, hT⟩ _ hI
  obtain ⟨S2, hI, hle, hins, _⟩ := Inv.publishAll M hI
  exact hk _ _ _ hle (hT.rd hins fun _ _ _ hi h => h.rd hi) hI

end Go.Proofs.YtgdibnmabnimaaaGreat

/- The laws' marks: laws.markText. -/
namespace Go.Proofs.YtgdibnmabnimaaaGreat
open Go Go.RowKit
section
variable {P : Program} {w w0 : World} {X : List Nat} {L : List Item} {S : Store} {K : Value → World → Prop}
attribute [local irreducible] Run CondV GuardV LoadV
theorem r_rem {T : TypeId} {cx cy : Bool} {a b : Int} (hb : b ≠ 0) (hk : K (.int .i64 (a.tmod b)) w) : Run P (sBin .rem T cx cy (.int .i64 a) (.int .i64 b)) w K :=
  Run.of (by simp [sBin, eqGuard_int, binOp, Op.intDiv, hb]) hk
theorem r_quo {T : TypeId} {cx cy : Bool} {a b : Int} (hb : b ≠ 0) (hr : -9223372036854775808 ≤ a.tdiv b ∧ a.tdiv b ≤ 9223372036854775807) (hk : K (.int .i64 (a.tdiv b)) w) : Run P (sBin .quo T cx cy (.int .i64 a) (.int .i64 b)) w K :=
  Run.of (by simp [sBin, eqGuard_int, binOp, Op.intDiv, hb, IntWalk.i64_in _ hr]) hk
theorem r_cat {T : TypeId} {cx cy : Bool} {a b : ByteArray} (hr : a.size + b.size ≤ 9223372036854775807) (hk : K (.string (a ++ b)) w) : Run P (sBin .add T cx cy (.string a) (.string b)) w K := by
  refine Run.of ?_ hk
  have h1 : ¬ (((a.size + b.size : Nat) : Int) > IntKind.i64.max) := by
    have e : IntKind.i64.max = 9223372036854775807 := by decide
    rw [e]
    omega
  simp only [sBin, binOp, Op.stringOp, Sem.run_bind, eqGuard_str, Result.andThen_ok, if_neg h1, Sem.run_pure]
theorem r_toInt {T U ty : TypeId} {k k' : IntKind} {n : Int} (hT : P.underlying T = some (.int k')) (hU : P.underlying U = some (.int k)) (hk : K (.int k (k.wrap n)) w) : Run P (sOp (.convert T U (.const (.int k' n))) ty) w K :=
  Run.of (by simp [sOp, execOp, ev0, evE, convert, Conv.intToInt, run_underlying hT, run_underlying hU]) hk
theorem slice_parts' {T e : TypeId} {k : Nat} (h : sliceOf P T = some (e, k)) : P.underlying T = some (.slice e) := by
  unfold sliceOf at h
  split at h
  · rename_i e1 he
    rw [Option.map_eq_some_iff] at h
    obtain ⟨i, hi, hx⟩ := h
    simp only [Prod.mk.injEq] at hx
    rw [he, hx.1]
  · cases h
theorem r_byteStr (h : Inv w0 X L S w) {T U ty e E : TypeId} {b cap : Nat} {n : Int} (i : Nat) (hT : P.underlying T = some (.slice e)) (he : P.underlying e = some (.int .u8)) (hU : P.underlying U = some .string)
    (hi : L[i]? = some (.blk b (.cells #[.int .u8 n] E))) (hk : K (.string (strOfNums [n])) w) : Run P (sOp (.convert T U (.const (.slice (some ⟨b, 0, none⟩) 1 cap))) ty) w K := by
  refine Run.of ?_ hk
  have := run_convert_bytes_arg w T e hT he b 0 1 cap [n] rfl (fun i hi' => by
    rw [h.cellL hi]
    have : i = 0 := by omega
    subst this
    rfl) U hU
  simp [sOp, execOp, ev0, evE, this]
end

def mtF : Nat → Int → ByteArray → ByteArray
  | 0, _, s => s
  | n + 1, k, s => if 0 < k then mtF n (k.tdiv 10) (strOfNums [IntKind.u8.wrap (48 + k.tmod 10)] ++ s) else s
def markS (k : Int) : ByteArray := if k ≤ 0 then ⟨#[109, 48]⟩ else ⟨#[109]⟩ ++ mtF k.toNat k ⟨#[]⟩
theorem tdiv_lt {k : Int} (h : 0 < k) : 0 ≤ k.tdiv 10 ∧ k.tdiv 10 ≤ k - 1 := by
  rw [Int.tdiv_eq_ediv_of_nonneg (by omega)]
  omega
theorem cat_size (a b : ByteArray) : (a ++ b).size = a.size + b.size := by simp [ByteArray.size_append]
theorem mtF_size : ∀ (n : Nat) (k : Int) (s : ByteArray), 0 ≤ k → ((mtF n k s).size : Int) ≤ s.size + k
  | 0, k, s, h => by simp only [mtF]; omega
  | n + 1, k, s, h => by
    rw [mtF]
    split
    · rename_i hk
      have h1 := tdiv_lt hk
      have := mtF_size n (k.tdiv 10) (strOfNums [IntKind.u8.wrap (48 + k.tmod 10)] ++ s) h1.1
      rw [cat_size, strOfNums_size] at this
      simp at this
      omega
    · omega
theorem markS_size (k : Int) (hk : k ≤ 4611686018427387904) : (markS k).size ≤ maxLen := by
  unfold markS
  simp only [maxLen]
  split
  · exact Nat.le_of_lt (by decide)
  · rw [cat_size]
    have := mtF_size k.toNat k ⟨#[]⟩ (by omega)
    have e1 : (⟨#[109]⟩ : ByteArray).size = 1 := rfl
    have e2 : (⟨#[]⟩ : ByteArray).size = 0 := rfl
    rw [e2] at this
    rw [e1]
    omega
section
attribute [local irreducible] Run CondV GuardV LoadV
theorem markText_calls (k : Int) (S : Store) (hk : k ≤ 4611686018427387904) : Pure Tryz.prog n_l_markText [.int .i64 k] S (.string (markS k)) := by
  intro w hI
  refine calls_l_markText ?_
  unfold sh_l_markText
  refine r_leq ?_
  refine condP (fun h0 => done hI (by rw [markS, if_pos h0])) (fun h0 => ?_)
  refine ⟨fun a b w' => ∃ (n : Nat) (j : Int) (s : ByteArray), a = .int .i64 j ∧ b = .string s ∧ 0 ≤ j ∧ j ≤ n ∧ mtF n j s = mtF k.toNat k ⟨#[]⟩ ∧ (s.size : Int) + j ≤ k ∧ Inv w [] [] S w', fun a _ _ => (intOf a).toNat,
    ⟨k.toNat, k, _, rfl, rfl, by omega, by omega, rfl, by rw [show (⟨#[]⟩ : ByteArray).size = 0 from rfl]; omega, hI⟩, ?_⟩
  intro t0 _ _ t3 _ _ _ _ _ _ _ _ _ _ w'
  rintro ⟨n, j, s, rfl, rfl, hj0, hjn, hrel, hsz, hI⟩
  refine r_gtr ?_
  refine condP (fun hj => ?_) (fun hj => ?_)
  · obtain ⟨m, rfl⟩ : ∃ m, n = m + 1 := ⟨n - 1, by omega⟩
    have h1 := tdiv_lt hj
    rw [mtF, if_pos hj] at hrel
    refine r_rem (by decide) ?_
    have hm : 0 ≤ j.tmod 10 ∧ j.tmod 10 < 10 := by
      rw [Int.tmod_eq_emod_of_nonneg hj0]
      omega
    refine r_add (by omega) ?_
    refine r_toInt un_int un_uint8 ?_
    refine r_slice1 hI mk_Suint8 rfl (by omega) (by omega) fun b w' hI => ?_
    refine r_byteStr hI 0 (slice_parts' sl_Suint8) un_uint8 un_string rfl ?_
    refine r_cat ?_ ?_
    · rw [strOfNums_size]
      simp
      omega
    refine r_quo (by decide) (by omega) ?_
    refine ⟨⟨m, _, _, rfl, rfl, h1.1, by omega, hrel, ?_, hI.nil⟩, by simp [intOf]; omega⟩
    rw [cat_size, strOfNums_size]
    simp
    omega
  · refine r_cat ?_ ?_
    · rw [show (⟨#[109]⟩ : ByteArray).size = 1 from rfl]
      omega
    refine done hI ?_
    rw [markS, if_neg h0, ← hrel]
    cases n with
    | zero => rfl
    | succ n => rw [mtF, if_neg hj]
end

end Go.Proofs.YtgdibnmabnimaaaGreat

/- The laws' marks, written into trees of the function's own. -/
namespace Go.Proofs.YtgdibnmabnimaaaGreat
open Go Go.RowKit

theorem cellsAt_put1 {c : Array Value} {p k j : Nat} {v : Value} (hj : j < k) (hf : p + k ≤ c.size) : cellsAt (putCells c (p + j) [v]) p k = (cellsAt c p k).set j v := by
  apply List.ext_getElem?
  intro i
  simp only [cellsAt, putCells, List.getElem?_take, List.getElem?_drop, List.getElem?_set]
  by_cases hi : i < k
  · rw [if_pos hi]
    simp only [List.getElem?_append, List.length_append, List.length_take, Array.length_toList, List.length_singleton, List.getElem?_take, List.getElem?_drop]
    have e1 : min (p + j) c.size = p + j := by omega
    rw [e1]
    by_cases h1 : j = i
    · subst h1
      rw [if_pos rfl, if_pos (by omega), if_neg (by omega), if_pos (by rw [List.length_drop, Array.length_toList]; omega)]
      simp
    · rw [if_neg h1]
      by_cases h2 : p + i < p + j
      · rw [if_pos (by omega), if_pos h2, if_pos h2, if_pos hi]
      · rw [if_neg (by omega), if_pos hi]
        congr 1
        omega
  · rw [if_neg hi]
    by_cases h1 : j = i
    · omega
    · rw [if_neg h1, if_neg hi]
theorem Part.upd {α : Type} {k : Nat} {R : Heaplet → List Value → α → Prop} {c c' : Array Value} {Ls : List Heaplet} {xs : List α} (h : Part k R c Ls xs) {i : Nat} {L' : Heaplet} {x : α} (hx : R L' (cellsAt c' (i * k) k) x)
    (hne : ∀ j, j ≠ i → cellsAt c' (j * k) k = cellsAt c (j * k) k) : Part k R c' (Ls.set i L') (xs.set i x) := by
  refine ⟨by simp [h.1], fun j h1 h2 => ?_⟩
  by_cases e : i = j
  · subst e
    rw [List.getElem_set_self, List.getElem_set_self]
    exact hx
  · rw [List.getElem_set_ne e, List.getElem_set_ne e, hne j fun e' => e e'.symm]
    exact h.2 j (by simpa using h1) (by simpa using h2)
theorem flat_pull {cur : List Heaplet} {j : Nat} (h : j < cur.length) : List.Perm (blks cur.flatten) (blks (cur.take j ++ cur.drop (j + 1)).flatten ++ blks cur[j]) := by
  have e : cur.flatten = (cur.take j).flatten ++ (cur[j] ++ (cur.drop (j + 1)).flatten) := by
    have h1 := List.take_append_drop j cur
    rw [List.drop_eq_getElem_cons h] at h1
    have h3 := congrArg List.flatten h1
    rw [List.flatten_append, List.flatten_cons] at h3
    exact h3.symm
  rw [e, List.flatten_append, blks_append, blks_append, blks_append, List.append_assoc]
  exact List.Perm.append_left _ List.perm_append_comm
theorem flat_set {cur : List Heaplet} {j : Nat} (h : j < cur.length) (M : Heaplet) : List.Perm (blks (cur.set j M).flatten) (blks (cur.take j ++ cur.drop (j + 1)).flatten ++ blks M) := by
  have e : (cur.set j M).flatten = (cur.take j).flatten ++ (M ++ (cur.drop (j + 1)).flatten) := by
    rw [List.set_eq_take_append_cons_drop, if_pos h]
    simp
  rw [e, List.flatten_append, blks_append, blks_append, blks_append, List.append_assoc]
  exact List.Perm.append_left _ List.perm_append_comm

mutual
def mkT : T → Int → T × Int
  | .mk _ _ _ ks, k => (.mk k (k + 1) (markS (k + 2)) (mkL ks (k + 3)).1, (mkL ks (k + 3)).2)
def mkL : List T → Int → List T × Int
  | [], k => ([], k)
  | t :: ts, k => ((mkT t k).1 :: (mkL ts (mkT t k).2).1, (mkL ts (mkT t k).2).2)
end
mutual
theorem mkT_end : ∀ (t : T) (k : Int), (mkT t k).2 = k + 3 * cntT t
  | .mk _ _ _ ks, k => by
    rw [mkT, mkL_end ks (k + 3), show cntT (T.mk _ _ _ ks) = 1 + cntL ks from rfl]
    omega
theorem mkL_end : ∀ (ts : List T) (k : Int), (mkL ts k).2 = k + 3 * cntL ts
  | [], k => by simp [mkL, cntL]
  | t :: ts, k => by
    rw [mkL]
    show (mkL ts (mkT t k).2).2 = _
    rw [mkL_end ts, mkT_end t k, show cntL (t :: ts) = cntT t + cntL ts from rfl]
    omega
end
theorem mkL_drop (ts : List T) (k : Int) (j : Nat) (h : j < ts.length) : mkL (ts.drop j) k = ((mkT ts[j] k).1 :: (mkL (ts.drop (j + 1)) (mkT ts[j] k).2).1, (mkL (ts.drop (j + 1)) (mkT ts[j] k).2).2) := by
  rw [List.drop_eq_getElem_cons h, mkL]
theorem mkT_eq (t : T) (k : Int) : mkT t k = (.mk k (k + 1) (markS (k + 2)) (mkL t.kids (k + 3)).1, (mkL t.kids (k + 3)).2) := by
  cases t; rw [mkT]; rfl
theorem mkL_len : ∀ (ts : List T) (k : Int), (mkL ts k).1.length = ts.length
  | [], k => rfl
  | t :: ts, k => by rw [mkL]; simp [mkL_len ts]

def MarkOk (ts : List T) : Prop := ∀ (S : Store) (L : Heaplet) (v : Value) (k : Int), TrSl 4 TrT L v ts → 0 ≤ k → k + 3 * cntL ts ≤ 4611686018427387904 →
  Tri Tryz.prog n_l_markTermS [v, .int .i64 k] (blks L) S fun r I' S' => S' = S ∧ r = .int .i64 (mkL ts k).2 ∧ ∃ L', I' = blks L' ∧ TrSl 4 TrT L' v (mkL ts k).1
section
attribute [local irreducible] Run CondV GuardV LoadV
theorem markTermS_of {ts : List T} (ih : ∀ t ∈ ts, MarkOk t.kids) : MarkOk ts := by
  intro S L v k hT hk0 hk w hI
  obtain ⟨a, cap, rfl, hl, hc, hT⟩ := hT
  refine calls_l_markTermS ?_
  unfold sh_l_markTermS
  rcases hT with ⟨rfl, rfl⟩ | ⟨b, c, E, Ls, rfl, rfl, hLs, hsz, hT⟩
  · refine ⟨fun i m w' => i = .int .i64 0 ∧ m = .int .i64 k ∧ Inv w [] [] S w', fun _ _ _ => 0, ⟨rfl, rfl, hI⟩, ?_⟩
    intro t5 _ _ _ _ _ _ _ _ _ _ _ _ _ _ _ _ _ _ _ _ _ _ _ _ t1 _ _ _ _ _ _ _ _ _ _ _ w'
    rintro ⟨rfl, rfl, hI⟩
    refine r_len sl_SiTerm ?_
    refine r_lss ?_
    refine condP (fun h => by simp at h) (fun _ => ?_)
    exact ⟨_, _, _, rfl, hI, Ext.refl _ _ _, rfl, by rw [mkL], [], rfl, TrSl.nil hc⟩
  · obtain ⟨X, hX⟩ : ∃ X, X = feet (blks ((b, .cells c E) :: Ls.flatten)) := ⟨_, rfl⟩
    rw [← hX] at hI ⊢
    simp only [maxLen] at hc
    refine ⟨fun i m w' => ∃ (j : Nat) (c' : Array Value) (cur : List Heaplet) (m' : Int) (dn : List T), j ≤ ts.length ∧ i = .int .i64 j ∧ m = .int .i64 m' ∧ dn.length = j ∧ c'.size = c.size ∧ Part 4 TrT c' cur (dn ++ ts.drop j) ∧
        dn ++ (mkL (ts.drop j) m').1 = (mkL ts k).1 ∧ (mkL (ts.drop j) m').2 = (mkL ts k).2 ∧ 0 ≤ m' ∧ m' + 3 * cntL (ts.drop j) ≤ 4611686018427387904 ∧ Inv w X (blks ((b, .cells c' E) :: cur.flatten)) S w',
      fun i _ _ => ts.length - (intOf i).toNat, ⟨0, c, Ls, k, [], Nat.zero_le _, rfl, rfl, rfl, rfl, ⟨hLs, hT⟩, rfl, rfl, hk0, hk, hI⟩, ?_⟩
    intro t5 _ _ _ _ _ _ _ _ _ _ _ _ _ _ _ _ _ _ _ _ _ _ _ _ t1 _ _ _ _ _ _ _ _ _ _ _ w'
    rintro ⟨j, c', cur, m, dn, hj, rfl, rfl, hdn, hcs, hP, hr1, hr2, hm0, hm, hI⟩
    refine r_len sl_SiTerm ?_
    refine r_lss ?_
    refine condP (fun hji => ?_) (fun hji => ?_)
    · have hj' : j < ts.length := by omega
      have hpl : (dn ++ ts.drop j).length = ts.length := by simp; omega
      have hcl : cur.length = ts.length := by rw [hP.1, hpl]
      have hjc : j < cur.length := by omega
      have hge : (dn ++ ts.drop j)[j]'(by omega) = ts[j] := by
        rw [List.getElem_append_right (by omega)]
        simp [hdn]
      have hTj := hP.2 j (by omega) hjc
      rw [hge] at hTj
      obtain ⟨kv, hcell, _, _, _, hkT⟩ := TrT.iff.1 hTj
      have hkv : kv.oneCell' = true ∧ kv.cells = #[kv] := by obtain ⟨a, cap', rfl, _⟩ := hkT; exact ⟨rfl, rfl⟩
      have hfit : j * 4 + 4 ≤ c'.size := by
        have : (j + 1) * 4 ≤ cap * 4 := Nat.mul_le_mul_right 4 (by omega)
        omega
      rw [mkL_drop ts m j hj'] at hr1 hr2
      rw [cntL_split ts j hj'] at hm
      have hcn := cntL_pos (ts.drop (j + 1))
      have hcm : cntT ts[j] = 1 + cntL ts[j].kids := by
        cases ts[j]; rfl
      have hck := cntL_pos ts[j].kids
      obtain ⟨c1, hc1⟩ : ∃ c1, c1 = putCells c' (j * 4 + 0) [.int .i64 m] := ⟨_, rfl⟩
      obtain ⟨c2, hc2⟩ : ∃ c2, c2 = putCells c1 (j * 4 + 1) [.int .i64 (m + 1)] := ⟨_, rfl⟩
      obtain ⟨c3, hc3⟩ : ∃ c3, c3 = putCells c2 (j * 4 + 2) [.string (markS (m + 2))] := ⟨_, rfl⟩
      have hs1 : c1.size = c'.size := by rw [hc1]; exact putCells_size _ _ _ (by simp; omega)
      have hs2 : c2.size = c'.size := by rw [hc2]; exact (putCells_size _ _ _ (by simp; omega)).trans hs1
      have hs3 : c3.size = c'.size := by rw [hc3]; exact (putCells_size _ _ _ (by simp; omega)).trans hs2
      refine r_indexAddr sl_SiTerm hj' ?_
      refine r_field fo_iTerm_0 ?_
      rw [Nat.zero_add]
      refine r_store hI 0 (n := 1) rfl (by decide +kernel) rfl (by omega) (by simp [Value.cells, Value.oneCell']) fun w' hI => ?_
      have hI : Inv w X (.blk b (.cells c1 E) :: blks cur.flatten) S w' := by rw [hc1]; exact hI
      refine r_add (by omega) ?_
      refine r_indexAddr sl_SiTerm hj' ?_
      refine r_field fo_iTerm_1 ?_
      rw [Nat.zero_add]
      refine r_store hI 0 (n := 1) rfl (by decide +kernel) rfl (by omega) (by simp [Value.cells, Value.oneCell']) fun w' hI => ?_
      have hI : Inv w X (.blk b (.cells c2 E) :: blks cur.flatten) S w' := by rw [hc2]; exact hI
      refine r_add (by omega) ?_
      have e2 : m + 1 + 1 = m + 2 := by omega
      rw [e2]
      refine Run.callPure fn_l_markText nm_l_markText hI (markText_calls _ S (by omega)) fun w' hI => ?_
      refine r_indexAddr sl_SiTerm hj' ?_
      refine r_field fo_iTerm_2 ?_
      rw [Nat.zero_add]
      refine r_store hI 0 (n := 1) rfl (by decide +kernel) rfl (by omega) (by simp [Value.cells, Value.oneCell']) fun w' hI => ?_
      have hI : Inv w X (.blk b (.cells c3 E) :: blks cur.flatten) S w' := by rw [hc3]; exact hI
      refine r_add (by omega) ?_
      refine r_indexAddr sl_SiTerm hj' ?_
      refine r_field fo_iTerm_3 ?_
      rw [Nat.zero_add]
      have hcc : cellsAt c3 (j * 4) 4 = [.int .i64 m, .int .i64 (m + 1), .string (markS (m + 2)), kv] := by
        rw [hc3, cellsAt_put1 (by omega) (by omega), hc2, cellsAt_put1 (by omega) (by omega), hc1, cellsAt_put1 (by omega) (by omega), hcell]
        rfl
      have hne : ∀ i, i ≠ j → cellsAt c3 (i * 4) 4 = cellsAt c' (i * 4) 4 := by
        intro i hi
        have : i * 4 + 4 ≤ j * 4 ∨ j * 4 + 4 ≤ i * 4 := by omega
        rw [hc3, cellsAt_put_ne (by simp; omega) (by simp; omega), hc2, cellsAt_put_ne (by simp; omega) (by simp; omega), hc1, cellsAt_put_ne (by simp; omega) (by simp; omega)]
      refine r_load sc_SiTerm (by rw [hI.cellL (i := 0) rfl]; exact cellsAt_get hcc 3 _ rfl) ?_
      have hI := hI.perm (M := (.blk b (.cells c3 E) :: blks (cur.take j ++ cur.drop (j + 1)).flatten) ++ blks cur[j]) ((flat_pull hjc).symm.cons _)
      have e3 : m + 2 + 1 = m + 3 := by omega
      rw [e3]
      refine Run.call (A := .blk b (.cells c3 E) :: blks (cur.take j ++ cur.drop (j + 1)).flatten) fn_l_markTermS nm_l_markTermS hI (ih _ (List.getElem_mem hj') S cur[j] kv (m + 3) hkT (by omega) (by omega)) fun v' I' S' w' => ?_
      rintro ⟨rfl, rfl, L', rfl, hT'⟩ _ hI
      have hI : Inv w X (blks ((b, .cells c3 E) :: (cur.set j L').flatten)) S' w' := hI.perm ((flat_set hjc L').cons _)
      refine r_add (by omega) ?_
      rw [mkT_eq] at hr1 hr2
      refine ⟨⟨j + 1, c3, cur.set j L', _, dn ++ [.mk m (m + 1) (markS (m + 2)) (mkL ts[j].kids (m + 3)).1], hj', rfl, rfl, by simp [hdn], by omega, ?_, ?_, hr2, ?_, ?_, hI⟩, by simp [intOf]; omega⟩
      · have hnew : TrT L' (cellsAt c3 (j * 4) 4) (.mk m (m + 1) (markS (m + 2)) (mkL ts[j].kids (m + 3)).1) :=
          TrT.iff.2 ⟨kv, hcc, ⟨by simp only [T.kind]; omega, by simp only [T.kind]; omega⟩, ⟨by simp only [T.n]; omega, by simp only [T.n]; omega⟩, markS_size _ (by omega), hT'⟩
        have := hP.upd hnew hne
        have e : (dn ++ ts.drop j).set j (.mk m (m + 1) (markS (m + 2)) (mkL ts[j].kids (m + 3)).1) = (dn ++ [.mk m (m + 1) (markS (m + 2)) (mkL ts[j].kids (m + 3)).1]) ++ ts.drop (j + 1) := by
          rw [List.set_append, if_neg (by omega), List.drop_eq_getElem_cons hj', hdn, Nat.sub_self, List.append_assoc]
          rfl
        rw [e] at this
        exact this
      · rw [← hr1]
        simp
      · rw [mkL_end]; omega
      · rw [mkL_end]; omega
    · have : j = ts.length := by omega
      subst this
      rw [List.drop_length] at hr1 hr2 hP
      simp only [mkL, List.append_nil] at hr1 hr2 hP
      subst hr1 hr2
      have hl' := mkL_len ts k
      refine ⟨_, _, _, rfl, hI, Ext.refl _ _ _, rfl, rfl, _, rfl, ?_⟩
      rw [← hl']
      exact hP.sl (by omega) (by simp only [maxLen]; omega) (by omega)
theorem markKids_ok : ∀ t : T, MarkOk t.kids := by
  refine T.ind fun k n s ks ih => ?_
  exact markTermS_of ih
theorem markTermS_ok (ts : List T) : MarkOk ts := markTermS_of fun t _ => markKids_ok t
end

end Go.Proofs.YtgdibnmabnimaaaGreat

/- The laws' marks, written into clauses of the function's own. -/
namespace Go.Proofs.YtgdibnmabnimaaaGreat
open Go Go.RowKit

def mkC (c : C) (k : Int) : C × Int := (⟨.mk k (k + 1) (markS (k + 2)) (mkL c.head.kids (k + 3)).1, (mkL c.body (mkL c.head.kids (k + 3)).2).1⟩, (mkL c.body (mkL c.head.kids (k + 3)).2).2)
def mkP : List C → Int → List C × Int
  | [], k => ([], k)
  | c :: cs, k => ((mkC c k).1 :: (mkP cs (mkC c k).2).1, (mkP cs (mkC c k).2).2)
def cntC (c : C) : Int := cntT c.head + cntL c.body
def cntP : List C → Int
  | [] => 0
  | c :: cs => cntC c + cntP cs
theorem cntC_eq (c : C) : cntC c = 1 + cntL c.head.kids + cntL c.body := by
  obtain ⟨⟨k, n, s, ks⟩, b⟩ := c
  rfl
theorem cntC_pos (c : C) : 0 ≤ cntC c := by
  have := cntL_pos c.head.kids
  have := cntL_pos c.body
  rw [cntC_eq]
  omega
theorem cntP_pos : ∀ p : List C, 0 ≤ cntP p
  | [] => Int.le_refl _
  | c :: p => by
    have := cntP_pos p
    have := cntC_pos c
    rw [cntP]; omega
theorem cntC_wC (c : C) : cntC c ≤ 1 + (wC c : Int) := by
  obtain ⟨⟨k, n, s, ks⟩, b⟩ := c
  rw [cntC_eq]
  have h1 := cnt_wL ks
  have h2 := cnt_wL b
  simp only [wC, wT, T.kids]
  omega
theorem cntP_wP : ∀ p : List C, cntP p ≤ p.length + (wP p : Int)
  | [] => by simp [cntP, wP]
  | c :: p => by
    have := cntP_wP p
    have := cntC_wC c
    rw [cntP, wP, List.length_cons]
    omega
theorem cntP_split (p : List C) (j : Nat) (h : j < p.length) : cntP (p.drop j) = cntC p[j] + cntP (p.drop (j + 1)) := by
  rw [List.drop_eq_getElem_cons h, cntP]
theorem mkC_end (c : C) (k : Int) : (mkC c k).2 = k + 3 * cntC c := by
  rw [mkC, cntC_eq]
  show (mkL c.body (mkL c.head.kids (k + 3)).2).2 = _
  rw [mkL_end, mkL_end]
  omega
theorem mkP_end : ∀ (p : List C) (k : Int), (mkP p k).2 = k + 3 * cntP p
  | [], k => by simp [mkP, cntP]
  | c :: p, k => by
    rw [mkP, cntP]
    show (mkP p (mkC c k).2).2 = _
    rw [mkP_end p, mkC_end]
    omega
theorem mkP_drop (p : List C) (k : Int) (j : Nat) (h : j < p.length) : mkP (p.drop j) k = ((mkC p[j] k).1 :: (mkP (p.drop (j + 1)) (mkC p[j] k).2).1, (mkP (p.drop (j + 1)) (mkC p[j] k).2).2) := by
  rw [List.drop_eq_getElem_cons h, mkP]
theorem mkP_len : ∀ (p : List C) (k : Int), (mkP p k).1.length = p.length
  | [], k => rfl
  | c :: p, k => by rw [mkP]; simp [mkP_len p]

section
attribute [local irreducible] Run CondV GuardV LoadV
theorem TrC.parts {L : Heaplet} {cs : List Value} {c : C} (h : TrC L cs c) : ∃ kv ks L1 L2, cs = [.int .i64 c.head.kind, .int .i64 c.head.n, .string c.head.name, kv, ks] ∧ L = L1 ++ L2 ∧ TrSl 4 TrT L1 kv c.head.kids ∧ TrSl 4 TrT L2 ks c.body := by
  obtain ⟨hd, ks, L1, L2, rfl, rfl, h1, h2⟩ := h
  obtain ⟨kv, rfl, _, _, _, hkT⟩ := TrT.iff.1 h1
  exact ⟨kv, ks, L1, L2, rfl, rfl, hkT, h2⟩
theorem markClauseS_ok {p : List C} {S : Store} {L : Heaplet} {v : Value} {k : Int} (hT : TrSl 5 TrC L v p) (hk0 : 0 ≤ k) (hk : k + 3 * cntP p ≤ 4611686018427387904) :
    Tri Tryz.prog n_l_markClauseS [v, .int .i64 k] (blks L) S fun r I' S' => S' = S ∧ r = .int .i64 (mkP p k).2 ∧ ∃ L', I' = blks L' ∧ TrSl 5 TrC L' v (mkP p k).1 := by
  intro w hI
  obtain ⟨a, cap, rfl, hl, hc, hT⟩ := hT
  refine calls_l_markClauseS ?_
  unfold sh_l_markClauseS
  rcases hT with ⟨rfl, rfl⟩ | ⟨b, c, E, Ls, rfl, rfl, hLs, hsz, hT⟩
  · refine ⟨fun i m w' => i = .int .i64 0 ∧ m = .int .i64 k ∧ Inv w [] [] S w', fun _ _ _ => 0, ⟨rfl, rfl, hI⟩, ?_⟩
    intro t5 _ _ _ _ _ _ _ _ _ _ _ _ _ _ _ _ _ _ _ _ _ _ _ _ _ _ _ _ _ _ _ _ _ _ t1 _ _ _ _ _ _ _ _ _ _ _ _ w'
    rintro ⟨rfl, rfl, hI⟩
    refine r_len sl_SiClause ?_
    refine r_lss ?_
    refine condP (fun h => by simp at h) (fun _ => ?_)
    exact ⟨_, _, _, rfl, hI, Ext.refl _ _ _, rfl, by rw [mkP], [], rfl, TrSl.nil hc⟩
  · obtain ⟨X, hX⟩ : ∃ X, X = feet (blks ((b, .cells c E) :: Ls.flatten)) := ⟨_, rfl⟩
    rw [← hX] at hI ⊢
    simp only [maxLen] at hc
    refine ⟨fun i m w' => ∃ (j : Nat) (c' : Array Value) (cur : List Heaplet) (m' : Int) (dn : List C), j ≤ p.length ∧ i = .int .i64 j ∧ m = .int .i64 m' ∧ dn.length = j ∧ c'.size = c.size ∧ Part 5 TrC c' cur (dn ++ p.drop j) ∧
        dn ++ (mkP (p.drop j) m').1 = (mkP p k).1 ∧ (mkP (p.drop j) m').2 = (mkP p k).2 ∧ 0 ≤ m' ∧ m' + 3 * cntP (p.drop j) ≤ 4611686018427387904 ∧ Inv w X (blks ((b, .cells c' E) :: cur.flatten)) S w',
      fun i _ _ => p.length - (intOf i).toNat, ⟨0, c, Ls, k, [], Nat.zero_le _, rfl, rfl, rfl, rfl, ⟨hLs, hT⟩, rfl, rfl, hk0, hk, hI⟩, ?_⟩
    intro t5 _ _ _ _ _ _ _ _ _ _ _ _ _ _ _ _ _ _ _ _ _ _ _ _ _ _ _ _ _ _ _ _ _ _ t1 _ _ _ _ _ _ _ _ _ _ _ _ w'
    rintro ⟨j, c', cur, m, dn, hj, rfl, rfl, hdn, hcs, hP, hr1, hr2, hm0, hm, hI⟩
    refine r_len sl_SiClause ?_
    refine r_lss ?_
    refine condP (fun hji => ?_) (fun hji => ?_)
    · have hj' : j < p.length := by omega
      have hpl : (dn ++ p.drop j).length = p.length := by simp; omega
      have hcl : cur.length = p.length := by rw [hP.1, hpl]
      have hjc : j < cur.length := by omega
      have hge : (dn ++ p.drop j)[j]'(by omega) = p[j] := by
        rw [List.getElem_append_right (by omega)]
        simp [hdn]
      have hTj := hP.2 j (by omega) hjc
      rw [hge] at hTj
      obtain ⟨kv, ks, L1, L2, hcell, hLL, hkT, hbT⟩ := hTj.parts
      have hfit : j * 5 + 5 ≤ c'.size := by
        have : (j + 1) * 5 ≤ cap * 5 := Nat.mul_le_mul_right 5 (by omega)
        omega
      rw [mkP_drop p m j hj'] at hr1 hr2
      rw [cntP_split p j hj', cntC_eq] at hm
      have hcn := cntP_pos (p.drop (j + 1))
      have hck := cntL_pos p[j].head.kids
      have hcb := cntL_pos p[j].body
      obtain ⟨c1, hc1⟩ : ∃ c1, c1 = putCells c' (j * 5 + 0) [.int .i64 m] := ⟨_, rfl⟩
      obtain ⟨c2, hc2⟩ : ∃ c2, c2 = putCells c1 (j * 5 + 1) [.int .i64 (m + 1)] := ⟨_, rfl⟩
      obtain ⟨c3, hc3⟩ : ∃ c3, c3 = putCells c2 (j * 5 + 2) [.string (markS (m + 2))] := ⟨_, rfl⟩
      have hs1 : c1.size = c'.size := by rw [hc1]; exact putCells_size _ _ _ (by simp; omega)
      have hs2 : c2.size = c'.size := by rw [hc2]; exact (putCells_size _ _ _ (by simp; omega)).trans hs1
      have hs3 : c3.size = c'.size := by rw [hc3]; exact (putCells_size _ _ _ (by simp; omega)).trans hs2
      refine r_indexAddr sl_SiClause hj' ?_
      refine r_field fo_iClause_0 ?_
      refine r_field fo_iTerm_0 ?_
      rw [Nat.zero_add, Nat.add_zero]
      refine r_store hI 0 (n := 1) rfl (by decide +kernel) rfl (by omega) (by simp [Value.cells, Value.oneCell']) fun w' hI => ?_
      have hI : Inv w X (.blk b (.cells c1 E) :: blks cur.flatten) S w' := by rw [hc1]; exact hI
      refine r_add (by omega) ?_
      refine r_indexAddr sl_SiClause hj' ?_
      refine r_field fo_iClause_0 ?_
      refine r_field fo_iTerm_1 ?_
      rw [Nat.zero_add, Nat.add_zero]
      refine r_store hI 0 (n := 1) rfl (by decide +kernel) rfl (by omega) (by simp [Value.cells, Value.oneCell']) fun w' hI => ?_
      have hI : Inv w X (.blk b (.cells c2 E) :: blks cur.flatten) S w' := by rw [hc2]; exact hI
      refine r_add (by omega) ?_
      have e2 : m + 1 + 1 = m + 2 := by omega
      rw [e2]
      refine Run.callPure fn_l_markText nm_l_markText hI (markText_calls _ S (by omega)) fun w' hI => ?_
      refine r_indexAddr sl_SiClause hj' ?_
      refine r_field fo_iClause_0 ?_
      refine r_field fo_iTerm_2 ?_
      rw [Nat.zero_add, Nat.add_zero]
      refine r_store hI 0 (n := 1) rfl (by decide +kernel) rfl (by omega) (by simp [Value.cells, Value.oneCell']) fun w' hI => ?_
      have hI : Inv w X (.blk b (.cells c3 E) :: blks cur.flatten) S w' := by rw [hc3]; exact hI
      refine r_add (by omega) ?_
      have hcc : cellsAt c3 (j * 5) 5 = [.int .i64 m, .int .i64 (m + 1), .string (markS (m + 2)), kv, ks] := by
        rw [hc3, cellsAt_put1 (by omega) (by omega), hc2, cellsAt_put1 (by omega) (by omega), hc1, cellsAt_put1 (by omega) (by omega), hcell]
        rfl
      have hne : ∀ i, i ≠ j → cellsAt c3 (i * 5) 5 = cellsAt c' (i * 5) 5 := by
        intro i hi
        have : i * 5 + 5 ≤ j * 5 ∨ j * 5 + 5 ≤ i * 5 := by omega
        rw [hc3, cellsAt_put_ne (by simp; omega) (by simp; omega), hc2, cellsAt_put_ne (by simp; omega) (by simp; omega), hc1, cellsAt_put_ne (by simp; omega) (by simp; omega)]
      refine r_indexAddr sl_SiClause hj' ?_
      refine r_field fo_iClause_0 ?_
      refine r_field fo_iTerm_3 ?_
      rw [Nat.zero_add, Nat.add_zero]
      refine r_load sc_SiTerm (by rw [hI.cellL (i := 0) rfl]; exact cellsAt_get hcc 3 _ rfl) ?_
      have e3 : m + 2 + 1 = m + 3 := by omega
      rw [e3]
      have hI := hI.perm (M := (.blk b (.cells c3 E) :: blks (cur.take j ++ cur.drop (j + 1)).flatten) ++ blks cur[j]) ((flat_pull hjc).symm.cons _)
      rw [hLL, blks_append] at hI
      have hI := hI.perm (M := ((.blk b (.cells c3 E) :: blks (cur.take j ++ cur.drop (j + 1)).flatten) ++ blks L2) ++ blks L1) (by rw [List.append_assoc]; exact List.Perm.append_left _ List.perm_append_comm)
      refine Run.call (A := (.blk b (.cells c3 E) :: blks (cur.take j ++ cur.drop (j + 1)).flatten) ++ blks L2) fn_l_markTermS nm_l_markTermS hI (markTermS_ok _ S L1 kv (m + 3) hkT (by omega) (by omega)) fun v' I' S' w' => ?_
      rintro ⟨rfl, rfl, L1', rfl, hT1⟩ _ hI
      have hI := hI.perm (M := ((.blk b (.cells c3 E) :: blks (cur.take j ++ cur.drop (j + 1)).flatten) ++ blks L1') ++ blks L2) (by rw [List.append_assoc, List.append_assoc]; exact List.Perm.append_left _ List.perm_append_comm)
      refine r_indexAddr sl_SiClause hj' ?_
      refine r_field fo_iClause_1 ?_
      rw [Nat.zero_add]
      refine r_load sc_SiTerm (by rw [hI.cellL (i := 0) rfl]; exact cellsAt_get hcc 4 _ rfl) ?_
      have hme := mkL_end p[j].head.kids (m + 3)
      refine Run.call (A := (.blk b (.cells c3 E) :: blks (cur.take j ++ cur.drop (j + 1)).flatten) ++ blks L1') fn_l_markTermS nm_l_markTermS hI (markTermS_ok _ S' L2 ks _ hbT (by omega) (by omega)) fun v' I' S2 w' => ?_
      rintro ⟨rfl, rfl, L2', rfl, hT2⟩ _ hI
      have hI : Inv w X (blks ((b, .cells c3 E) :: (cur.set j (L1' ++ L2')).flatten)) S2 w' := by
        refine hI.perm ?_
        rw [List.append_assoc, ← blks_append]
        exact (flat_set hjc (L1' ++ L2')).cons _
      refine r_add (by omega) ?_
      have hmc : mkC p[j] m = (⟨.mk m (m + 1) (markS (m + 2)) (mkL p[j].head.kids (m + 3)).1, (mkL p[j].body (mkL p[j].head.kids (m + 3)).2).1⟩, (mkL p[j].body (mkL p[j].head.kids (m + 3)).2).2) := rfl
      have hce := mkC_end p[j] m
      rw [cntC_eq] at hce
      have hnew : TrC (L1' ++ L2') (cellsAt c3 (j * 5) 5) (mkC p[j] m).1 := by
        rw [hmc]
        exact ⟨_, ks, L1', L2', hcc, rfl, TrT.iff.2 ⟨kv, rfl, ⟨by simp only [T.kind]; omega, by simp only [T.kind]; omega⟩, ⟨by simp only [T.n]; omega, by simp only [T.n]; omega⟩, markS_size _ (by omega), hT1⟩, hT2⟩
      refine ⟨⟨j + 1, c3, cur.set j (L1' ++ L2'), (mkC p[j] m).2, dn ++ [(mkC p[j] m).1], hj', rfl, rfl, by simp [hdn], by omega, ?_, ?_, hr2, by omega, by omega, hI⟩, by simp [intOf]; omega⟩
      · have := hP.upd hnew hne
        have e : (dn ++ p.drop j).set j (mkC p[j] m).1 = (dn ++ [(mkC p[j] m).1]) ++ p.drop (j + 1) := by
          rw [List.set_append, if_neg (by omega), List.drop_eq_getElem_cons hj', hdn, Nat.sub_self, List.append_assoc]
          rfl
        rw [e] at this
        exact this
      · rw [← hr1]
        simp
    · have : j = p.length := by omega
      subst this
      rw [List.drop_length] at hr1 hr2 hP
      simp only [mkP, List.append_nil] at hr1 hr2 hP
      subst hr1 hr2
      have hl' := mkP_len p k
      refine ⟨_, _, _, rfl, hI, Ext.refl _ _ _, rfl, rfl, _, rfl, ?_⟩
      rw [← hl']
      exact hP.sl (by omega) (by simp only [maxLen]; omega) (by omega)
end

end Go.Proofs.YtgdibnmabnimaaaGreat

/- The laws' marks, read again. -/
namespace Go.Proofs.YtgdibnmabnimaaaGreat
open Go Go.RowKit

def HeldOk (ts : List T) : Prop := ∀ (S : Store) (v : Value) (k : Int), RdSl S 4 (RdT S) v (mkL ts k).1 → 0 ≤ k → k + 3 * cntL ts ≤ 4611686018427387904 →
  Pure Tryz.prog n_l_heldTermS [v, .int .i64 k] S (.int .i64 (mkL ts k).2)
section
attribute [local irreducible] Run CondV GuardV LoadV
theorem heldTermS_of {ts : List T} (ih : ∀ t ∈ ts, HeldOk t.kids) : HeldOk ts := by
  intro S v k h hk0 hk w hI
  have hlen := h.le
  have hml := mkL_len ts k
  simp only [maxLen] at hlen
  refine calls_l_heldTermS ?_
  unfold sh_l_heldTermS
  refine ⟨fun i m w' => ∃ (j : Nat) (m' : Int), j ≤ ts.length ∧ i = .int .i64 j ∧ m = .int .i64 m' ∧ (mkL ts k).1.drop j = (mkL (ts.drop j) m').1 ∧ (mkL (ts.drop j) m').2 = (mkL ts k).2 ∧ 0 ≤ m' ∧ m' + 3 * cntL (ts.drop j) ≤ 4611686018427387904 ∧ Inv w [] [] S w',
    fun i _ _ => ts.length - (intOf i).toNat, ⟨0, k, Nat.zero_le _, rfl, rfl, rfl, rfl, hk0, hk, hI⟩, ?_⟩
  intro t5 _ _ _ _ _ _ _ _ _ _ _ _ _ _ _ _ _ _ _ _ _ _ _ _ _ _ _ _ _ _ t1 _ _ _ _ _ _ _ _ _ _ _ _ _ _ w'
  rintro ⟨j, m, hj, rfl, rfl, hr1, hr2, hm0, hm, hI⟩
  refine r_lenSl h sl_SiTerm ?_
  refine r_lss ?_
  refine condP (fun hji => ?_) (fun hji => ?_)
  · have hj' : j < ts.length := by omega
    have hjm : j < (mkL ts k).1.length := by omega
    rw [mkL_drop ts m j hj'] at hr1 hr2
    rw [List.drop_eq_getElem_cons hjm, List.cons.injEq] at hr1
    obtain ⟨hel, hr1⟩ := hr1
    rw [mkT_eq] at hel hr1 hr2
    rw [cntL_split ts j hj'] at hm
    have hcn := cntL_pos (ts.drop (j + 1))
    have hcm : cntT ts[j] = 1 + cntL ts[j].kids := by
      cases ts[j]; rfl
    have hck := cntL_pos ts[j].kids
    have hke := mkL_end ts[j].kids (m + 3)
    obtain ⟨b, o, cap, c, E, fz, hv, hS, hR⟩ := h.at_ hjm
    rw [hel] at hR
    obtain ⟨kv, hcell, _, _, _, hkR⟩ := RdT.iff.1 hR
    subst hv
    have e0 : m + 1 + 1 = m + 2 := by omega
    have e1 : m + 2 + 1 = m + 3 := by omega
    refine r_indexAddr sl_SiTerm hjm ?_
    refine r_field fo_iTerm_0 ?_
    refine r_load sc_int (by rw [hI.cellS hS]; exact cellsAt_get hcell 0 _ rfl) ?_
    refine r_neq ?_
    refine condV (fun hb => by simp [T.kind] at hb) (fun _ => ?_)
    refine r_add (by omega) ?_
    refine r_indexAddr sl_SiTerm hjm ?_
    refine r_field fo_iTerm_1 ?_
    refine r_load sc_int (by rw [hI.cellS hS]; exact cellsAt_get hcell 1 _ rfl) ?_
    refine r_neq ?_
    refine condV (fun hb => by simp [T.n] at hb) (fun _ => ?_)
    refine r_add (by omega) ?_
    rw [e0]
    refine ⟨fun D x37 x36 x35 x34 x33 x32 x31 x30 w_ => (D 0 = true → x30 = .slice (some ⟨b, o, none⟩) (mkL ts k).1.length cap) ∧ (D 1 = true → x31 = .int .i64 j) ∧ (D 2 = true → x32 = .pointer (some ⟨b, o + j * 4, none⟩)) ∧ (D 3 = true → x33 = .pointer (some ⟨b, o + j * 4 + 2, none⟩)) ∧ (D 4 = true → x34 = .string (markS (m + 2))) ∧ (D 5 = true → x35 = .int .i64 (m + 2)) ∧ (D 6 = true → x36 = .string (markS (m + 2))) ∧ (D 7 = true → x37 = .bool false) ∧ Inv w [] [] S w_, ⟨fun h => Bool.noConfusion h, fun h => Bool.noConfusion h, fun h => Bool.noConfusion h, fun h => Bool.noConfusion h, fun h => Bool.noConfusion h, fun h => Bool.noConfusion h, fun h => Bool.noConfusion h, fun h => Bool.noConfusion h, hI.draw⟩, ⟨?_, ?_, ?_, ?_, ?_, ?_, ?_, ?_, trivial⟩, ?_⟩
    · intro D hD_  x37 x36 x35 x34 x33 x32 x31 x30 w_
      rintro ⟨h0_, h1_, h2_, h3_, h4_, h5_, h6_, h7_, hI⟩
      exact ⟨fun _ => rfl, h1_, h2_, h3_, h4_, h5_, h6_, h7_, hI⟩
    · intro D hD_  x37 x36 x35 x34 x33 x32 x31 x30 w_
      rintro ⟨h0_, h1_, h2_, h3_, h4_, h5_, h6_, h7_, hI⟩
      exact ⟨h0_, fun _ => rfl, h2_, h3_, h4_, h5_, h6_, h7_, hI⟩
    · intro D hD_ d0_0 d1_1 x37 x36 x35 x34 x33 x32 x31 x30 w_
      rintro ⟨h0_, h1_, h2_, h3_, h4_, h5_, h6_, h7_, hI⟩
      obtain rfl := h0_ d0_0
      obtain rfl := h1_ d1_1
      refine r_indexAddr sl_SiTerm hjm ?_
      exact ⟨h0_, h1_, fun _ => rfl, h3_, h4_, h5_, h6_, h7_, hI⟩
    · intro D hD_ d2_0 x37 x36 x35 x34 x33 x32 x31 x30 w_
      rintro ⟨h0_, h1_, h2_, h3_, h4_, h5_, h6_, h7_, hI⟩
      obtain rfl := h2_ d2_0
      refine r_field fo_iTerm_2 ?_
      exact ⟨h0_, h1_, h2_, fun _ => rfl, h4_, h5_, h6_, h7_, hI⟩
    · intro D hD_ d3_0 x37 x36 x35 x34 x33 x32 x31 x30 w_
      rintro ⟨h0_, h1_, h2_, h3_, h4_, h5_, h6_, h7_, hI⟩
      obtain rfl := h3_ d3_0
      refine r_load sc_string (by rw [hI.cellS hS]; exact cellsAt_get hcell 2 _ rfl) ?_
      exact ⟨h0_, h1_, h2_, h3_, fun _ => rfl, h5_, h6_, h7_, hI⟩
    · intro D hD_  x37 x36 x35 x34 x33 x32 x31 x30 w_
      rintro ⟨h0_, h1_, h2_, h3_, h4_, h5_, h6_, h7_, hI⟩
      exact ⟨h0_, h1_, h2_, h3_, h4_, fun _ => rfl, h6_, h7_, hI⟩
    · intro D hD_ d5_0 x37 x36 x35 x34 x33 x32 x31 x30 w_
      rintro ⟨h0_, h1_, h2_, h3_, h4_, h5_, h6_, h7_, hI⟩
      obtain rfl := h5_ d5_0
      refine Run.callPure fn_l_markText nm_l_markText hI (markText_calls _ S (by omega)) fun w_ hI => ?_
      exact ⟨h0_, h1_, h2_, h3_, h4_, h5_, fun _ => rfl, h7_, hI⟩
    · intro D hD_ d4_0 d6_1 x37 x36 x35 x34 x33 x32 x31 x30 w_
      rintro ⟨h0_, h1_, h2_, h3_, h4_, h5_, h6_, h7_, hI⟩
      obtain rfl := h4_ d4_0
      obtain rfl := h6_ d6_1
      refine r_sneq ?_; rw [decide_eq_true rfl]
      exact ⟨h0_, h1_, h2_, h3_, h4_, h5_, h6_, fun _ => rfl, hI⟩
    intro D d7_ d6_ d5_ d4_ d3_ d2_ d1_ d0_ x37 x36 x35 x34 x33 x32 x31 x30 w_
    rintro ⟨h0_, h1_, h2_, h3_, h4_, h5_, h6_, h7_, hI⟩
    obtain rfl := h7_ d7_
    obtain rfl := h6_ d6_
    obtain rfl := h5_ d5_
    obtain rfl := h4_ d4_
    obtain rfl := h3_ d3_
    obtain rfl := h2_ d2_
    obtain rfl := h1_ d1_
    obtain rfl := h0_ d0_
    clear h0_ h1_ h2_ h3_ h4_ h5_ h6_ h7_
    refine condV (fun hb => by cases hb) (fun _ => ?_)
    refine r_add (by omega) ?_
    rw [e1]
    refine r_indexAddr sl_SiTerm hjm ?_
    refine r_field fo_iTerm_3 ?_
    refine r_load sc_SiTerm (by rw [hI.cellS hS]; exact cellsAt_get hcell 3 _ rfl) ?_
    refine Run.callPure fn_l_heldTermS nm_l_heldTermS hI (ih _ (List.getElem_mem hj') S kv (m + 3) hkR (by omega) (by omega)) fun w' hI => ?_
    refine r_lss ?_
    refine condP (fun hb => by omega) (fun _ => ?_)
    refine r_add (by omega) ?_
    exact ⟨⟨j + 1, _, hj', rfl, rfl, hr1, hr2, by omega, by omega, hI⟩, by simp [intOf]; omega⟩
  · have : j = ts.length := by omega
    subst this
    rw [List.drop_length] at hr2
    exact done hI (by rw [← hr2, mkL])
theorem heldKids_ok : ∀ t : T, HeldOk t.kids := by
  refine T.ind fun k n s ks ih => ?_
  exact heldTermS_of ih
theorem heldTermS_ok (ts : List T) : HeldOk ts := heldTermS_of fun t _ => heldKids_ok t

end

end Go.Proofs.YtgdibnmabnimaaaGreat

/- Names of goals with their numbers of arguments: built, compared; the clauses for one. -/
namespace Go.Proofs.YtgdibnmabnimaaaGreat
open Go Go.RowKit

theorem run_partSc {P : Program} {w : World} {T : TypeId} {cs : Array Value} {off : Nat} {v : Value} (h : isSc P T = true) (hx : cs[off]? = some v) : (part T cs off).run P w = .ok v w := by
  simp [part, (isSc_true (w := w) h).1, hx]
section
variable {w : World} {K : Value → World → Prop}
attribute [local irreducible] Run
end

attribute [local irreducible] Run CondV GuardV LoadV
structure Pd where
  name : ByteArray
  arity : Int
deriving DecidableEq
def Pd.cells (x : Pd) : List Value := [.string x.name, .int .i64 x.arity]
def RdPd (cs : List Value) (x : Pd) : Prop := cs = x.cells
def predT (t : T) : Pd := ⟨t.name, t.kids.length⟩
def eqPd (x y : Pd) : Bool := decide (x.name = y.name) && decide (x.arity = y.arity)
theorem eqPd_iff (x y : Pd) : eqPd x y = decide (x = y) := by
  obtain ⟨a, b⟩ := x
  obtain ⟨c, d⟩ := y
  rw [eqPd, Bool.eq_iff_iff]
  simp
def posOf (f : C → Bool) : List C → Nat → List Int
  | [], _ => []
  | c :: cs, k => if f c = true then (k : Int) :: posOf f cs (k + 1) else posOf f cs (k + 1)
theorem posOf_at (f : C → Bool) : ∀ (p : List C) (k : Nat) (n : Int), n ∈ posOf f p k → ∃ i : Nat, (k : Int) ≤ n ∧ n = k + i ∧ ∃ h : i < p.length, f p[i] = true
  | [], k, n, h => by simp [posOf] at h
  | c :: cs, k, n, h => by
    have hrec : n ∈ posOf f cs (k + 1) → ∃ i : Nat, (k : Int) ≤ n ∧ n = k + i ∧ ∃ h : i < (c :: cs).length, f (c :: cs)[i] = true := by
      intro h
      obtain ⟨i, h1, h2, h3, h4⟩ := posOf_at f cs (k + 1) n h
      exact ⟨i + 1, by omega, by omega, by simpa using h3, by simpa using h4⟩
    rw [posOf] at h
    split at h
    · rcases List.mem_cons.1 h with rfl | h
      · exact ⟨0, by omega, by omega, by simp, by simpa using ‹f c = true›⟩
      · exact hrec h
    · exact hrec h
theorem posOf_len (f : C → Bool) : ∀ (p : List C) (k : Nat), (posOf f p k).length ≤ p.length
  | [], k => by simp [posOf]
  | c :: cs, k => by
    have := posOf_len f cs (k + 1)
    rw [posOf]
    split <;> simp <;> omega

end Go.Proofs.YtgdibnmabnimaaaGreat

/- The clauses for a goal; which clauses can be unfolded: both sides. -/
namespace Go.Proofs.YtgdibnmabnimaaaGreat
open Go Go.RowKit
attribute [local irreducible] Run CondV GuardV LoadV

theorem posOf_step (f : C → Bool) (p : List C) (k : Nat) (h : k < p.length) (l : List Int) : (if f p[k] = true then l ++ [(k : Int)] else l) ++ posOf f (p.drop (k + 1)) (k + 1) = l ++ posOf f (p.drop k) k := by
  rw [List.drop_eq_getElem_cons h, posOf]
  split
  · rw [List.append_assoc]; rfl
  · rfl

end Go.Proofs.YtgdibnmabnimaaaGreat

/- Lists of predicates: asked and grown, on both sides. -/
namespace Go.Proofs.YtgdibnmabnimaaaGreat
open Go Go.RowKit
attribute [local irreducible] Run CondV GuardV LoadV

def pds (l : List Pd) : List Value := l.flatMap Pd.cells
theorem pds_snoc (l : List Pd) (x : Pd) : pds l ++ x.cells = pds (l ++ [x]) := by simp [pds]
theorem RowRd.preds {S : Store} {v : Value} {e : TypeId} {l : List Pd} (h : RowRd S v e 2 l.length (pds l)) : RdSl S 2 RdPd v l :=
  RowRd.rd (f := Pd.cells) (fun _ => rfl) (fun _ _ => rfl) h
def hasP (l : List Pd) (x : Pd) : Bool := l.any fun y => eqPd x y
def addP (l : List Pd) (x : Pd) : List Pd := if hasP l x = true then l else l ++ [x]
theorem eqPd_comm (x y : Pd) : eqPd x y = eqPd y x := by
  rw [eqPd_iff, eqPd_iff, Bool.eq_iff_iff]
  simp only [decide_eq_true_eq]
  exact ⟨Eq.symm, Eq.symm⟩

end Go.Proofs.YtgdibnmabnimaaaGreat

/- Marks in rows of predicates; trees lent and taken back. -/
namespace Go.Proofs.YtgdibnmabnimaaaGreat
open Go Go.RowKit

/- a tree of the function's own, handed to readers, and taken back -/
theorem Inv.lendAll {w0 w : World} {X : List Nat} {A : List Item} (M : Heaplet) {S : Store} (h : Inv w0 X (A ++ blks M) S w) :
    ∃ S', Sle S S' ∧ Ins S' M ∧ Inv w0 X A S' w ∧ ∀ B w', Inv w0 X B S' w' → Inv w0 X (B ++ blks M) S w' := by
  obtain ⟨S', h1, h2, h3, h4⟩ := Inv.publishAll M h
  have hnd := h.nd
  rw [feet_append, List.nodup_append] at hnd
  refine ⟨S', h2, h3, h1, fun B w' hB => ⟨hB.size, hB.os, hB.tape, hB.output, hB.old, fun it hit => ?_, ?_, fun b hb => ?_, fun b o hb => ⟨(hB.pub b o (h2 b o hb)).1, fun hb' => ?_⟩⟩⟩
  · rcases List.mem_append.1 hit with hit | hit
    · exact hB.its it hit
    · obtain ⟨p, hp, rfl⟩ := List.mem_map.1 hit
      exact (hB.pub _ _ (h3 p hp)).1
  · rw [feet_append, List.nodup_append]
    refine ⟨hB.nd, hnd.2.1, fun a ha b hb e => ?_⟩
    subst e
    obtain ⟨p, hp, rfl⟩ := mem_feet_blks.1 hb
    exact (hB.pub _ _ (h3 p hp)).2 ha
  · rw [feet_append] at hb
    rcases List.mem_append.1 hb with hb | hb
    · exact hB.new b hb
    · exact h.new b (by rw [feet_append]; exact List.mem_append_right _ hb)
  · rw [feet_append] at hb'
    rcases List.mem_append.1 hb' with hb' | hb'
    · exact (hB.pub b o (h2 b o hb)).2 hb'
    · exact (h.pub b o hb).2 (by rw [feet_append]; exact List.mem_append_right _ hb')
/- a row seen as its block -/
theorem Inv.openRow {w0 w : World} {X : List Nat} {A : List Item} {S : Store} {v : Value} {e : TypeId} {k n : Nat} {xs : List Value} (h : Inv w0 X (A ++ [.row v e k n xs]) S w) :
    xs.length = n * k ∧ ((v = .slice none 0 0 ∧ n = 0) ∨ ∃ g cap cur, v = .slice (some ⟨g, 0, none⟩) n cap ∧ n ≤ cap ∧ cap ≤ maxLen ∧ cur.size = cap * k ∧ cur.toList.take (n * k) = xs ∧ Inv w0 X (A ++ [.blk g (.cells cur e)]) S w) := by
  have hm : w.ownsRow 0 e k v n xs := h.its (.row v e k n xs) (by simp)
  obtain ⟨hl, hm⟩ := hm
  refine ⟨hl, ?_⟩
  rcases hm with hn | ⟨g, cap, cur, rfl, _, hg, hnc, hcm, hcs, ht⟩
  · exact .inl hn
  · have hf : feet (A ++ [Item.blk g (.cells cur e)]) = feet (A ++ [Item.row (.slice (some ⟨g, 0, none⟩) n cap) e k n xs]) := by
      simp [feet, Item.foot, Value.ownBlock]
    refine .inr ⟨g, cap, cur, rfl, hnc, hcm, hcs, ht, h.size, h.os, h.tape, h.output, h.old, fun it hit => ?_, by rw [hf]; exact h.nd, by rw [hf]; exact h.new, by rw [hf]; exact h.pub⟩
    rcases List.mem_append.1 hit with hit | hit
    · exact h.its it (List.mem_append_left _ hit)
    · simp at hit
      subst hit
      exact hg
theorem Inv.closeRow {w0 w : World} {X : List Nat} {A : List Item} {S : Store} {g cap k n : Nat} {cur : Array Value} {e : TypeId} (h : Inv w0 X (A ++ [.blk g (.cells cur e)]) S w) (hn : n ≤ cap) (hc : cap ≤ maxLen) (hs : cur.size = cap * k) :
    Inv w0 X (A ++ [.row (.slice (some ⟨g, 0, none⟩) n cap) e k n (cur.toList.take (n * k))]) S w := by
  have hg : w.heap[g]? = some (.cells cur e) := h.its (.blk g (.cells cur e)) (by simp)
  have hf : feet (A ++ [Item.row (.slice (some ⟨g, 0, none⟩) n cap) e k n (cur.toList.take (n * k))]) = feet (A ++ [Item.blk g (.cells cur e)]) := by
    simp [feet, Item.foot, Value.ownBlock]
  refine ⟨h.size, h.os, h.tape, h.output, h.old, fun it hit => ?_, by rw [hf]; exact h.nd, by rw [hf]; exact h.new, by rw [hf]; exact h.pub⟩
  rcases List.mem_append.1 hit with hit | hit
  · exact h.its it (List.mem_append_left _ hit)
  · simp at hit
    subst hit
    refine ⟨?_, .inr ⟨g, cap, cur, rfl, Nat.zero_le _, hg, hn, hc, hs, rfl⟩⟩
    rw [List.length_take, Array.length_toList, hs]
    exact Nat.min_eq_left (Nat.mul_le_mul_right k hn)

def mkPd : List Pd → Int → List Pd
  | [], _ => []
  | _ :: l, k => ⟨markS k, k + 1⟩ :: mkPd l (k + 2)
theorem mkPd_len : ∀ (l : List Pd) (k : Int), (mkPd l k).length = l.length
  | [], k => rfl
  | x :: l, k => by rw [mkPd]; simp [mkPd_len l]
theorem mkPd_at : ∀ (l : List Pd) (k : Int) (j : Nat) (h : j < (mkPd l k).length), (mkPd l k)[j] = ⟨markS (k + 2 * j), k + 2 * j + 1⟩
  | [], k, j, h => by simp [mkPd] at h
  | x :: l, k, 0, h => by simp [mkPd]
  | x :: l, k, j + 1, h => by
    simp only [mkPd, List.getElem_cons_succ]
    rw [mkPd_at l (k + 2) j (by simpa [mkPd] using h)]
    rw [show k + 2 + 2 * (j : Int) = k + 2 * ((j + 1 : Nat) : Int) by omega]
theorem cells_list {c : Array Value} {l : List Pd} (h : ∀ i (h : i < l.length), cellsAt c (i * 2) 2 = l[i].cells) : c.toList.take (l.length * 2) = pds l := by
  apply List.ext_getElem?
  intro i
  rw [List.getElem?_take]
  split
  · rename_i hi
    have hq : i / 2 < l.length := by omega
    have h1 := h (i / 2) hq
    have h2 := flat_at Pd.cells 2 (fun _ => rfl) l (i / 2) hq
    have e1 : (cellsAt c (i / 2 * 2) 2)[i % 2]? = c.toList[i]? := by
      rw [cellsAt, List.getElem?_take, if_pos (by omega), List.getElem?_drop]
      congr 1
      omega
    have e2 : (l[i / 2].cells)[i % 2]? = (pds l)[i]? := by
      rw [← h2, List.getElem?_take, if_pos (by omega), List.getElem?_drop, pds]
      congr 1
      omega
    rw [← e1, h1, e2]
  · rename_i hi
    have hl : (pds l).length = l.length * 2 := flat_len Pd.cells 2 (fun _ => rfl) l
    rw [List.getElem?_eq_none (by omega)]
section
attribute [local irreducible] Run CondV GuardV LoadV
end

end Go.Proofs.YtgdibnmabnimaaaGreat

/- Steps that the laws' walks share: copies lent and marked, results compared, marked and read again. -/
namespace Go.Proofs.YtgdibnmabnimaaaGreat
open Go Go.RowKit
section
variable {w w0 : World} {X : List Nat} {L A : List Item} {S : Store} {K : Value → World → Prop}
attribute [local irreducible] Run CondV GuardV LoadV
/- copies that will be marked: their blocks are known -/
theorem Run.toClauseM {p : List C} {v : Value} (hI : Inv w0 X L S w) (h : RdSl S 5 (RdC S) v p) (hw : p.length + wP p ≤ 1048576)
    (hk : ∀ v' M S' w', Sle S S' → RdSl S' 5 (RdC S') v' p → TrSl 5 TrC M v' p → Inv w0 X L S' w' → (∀ B w'', Inv w0 X B S' w'' → Inv w0 X (B ++ blks M) S w'') → K v' w') :
    Run Tryz.prog (sCall (.func (.func n_l_toClauseS) #[] #[]) [v]) w K := by
  refine Run.call0 fn_l_toClauseS nm_l_toClauseS hI (toClauseS_calls h hw) fun v' I' S' w' => ?_
  rintro ⟨rfl, M, rfl, hT⟩ _ hI
  obtain ⟨S2, hle, hins, hI, hb⟩ := Inv.lendAll M hI
  exact hk _ M _ _ hle (hT.rd hins fun _ _ _ hi h => h.rd hi) hT hI hb
theorem Run.toTermM {p : List T} {v : Value} (hI : Inv w0 X L S w) (h : RdSl S 4 (RdT S) v p) (hw : p.length + wL p ≤ 1048576)
    (hk : ∀ v' M S' w', Sle S S' → RdSl S' 4 (RdT S') v' p → TrSl 4 TrT M v' p → Inv w0 X L S' w' → (∀ B w'', Inv w0 X B S' w'' → Inv w0 X (B ++ blks M) S w'') → K v' w') :
    Run Tryz.prog (sCall (.func (.func n_l_toTermS) #[] #[]) [v]) w K := by
  refine Run.call0 fn_l_toTermS nm_l_toTermS hI (toTermS_calls h hw) fun v' I' S' w' => ?_
  rintro ⟨rfl, M, rfl, hT⟩ _ hI
  obtain ⟨S2, hle, hins, hI, hb⟩ := Inv.lendAll M hI
  exact hk _ M _ _ hle (hT.rd hins fun _ _ _ hi h => h.rd hi) hT hI hb
/- they are marked, and nobody looks at them again -/
theorem Run.markP {p : List C} {v : Value} {M : Heaplet} {k : Int} (hI : Inv w0 X (A ++ blks M) S w) (hT : TrSl 5 TrC M v p) (hk0 : 0 ≤ k) (hk1 : k + 3 * cntP p ≤ 4611686018427387904)
    (hk : ∀ w', Inv w0 X A S w' → K (.int .i64 (k + 3 * cntP p)) w') : Run Tryz.prog (sCall (.func (.func n_l_markClauseS) #[] #[]) [v, .int .i64 k]) w K := by
  refine Run.call fn_l_markClauseS nm_l_markClauseS hI (markClauseS_ok hT hk0 hk1) fun v' I' S' w' => ?_
  rintro ⟨rfl, rfl, _⟩ _ hI
  rw [mkP_end]
  exact hk _ (hI.sub (List.sublist_append_left _ _))
theorem Run.markL {p : List T} {v : Value} {M : Heaplet} {k : Int} (hI : Inv w0 X (A ++ blks M) S w) (hT : TrSl 4 TrT M v p) (hk0 : 0 ≤ k) (hk1 : k + 3 * cntL p ≤ 4611686018427387904)
    (hk : ∀ w', Inv w0 X A S w' → K (.int .i64 (k + 3 * cntL p)) w') : Run Tryz.prog (sCall (.func (.func n_l_markTermS) #[] #[]) [v, .int .i64 k]) w K := by
  refine Run.call fn_l_markTermS nm_l_markTermS hI (markTermS_ok p S M v k hT hk0 hk1) fun v' I' S' w' => ?_
  rintro ⟨rfl, rfl, _⟩ _ hI
  rw [mkL_end]
  exact hk _ (hI.sub (List.sublist_append_left _ _))
/- rows of predicates -/
end

end Go.Proofs.YtgdibnmabnimaaaGreat

/- Trees grown by append; impl.own and its kin. -/
namespace Go.Proofs.YtgdibnmabnimaaaGreat
open Go Go.RowKit

structure Grown {α : Type} (k : Nat) (R : Heaplet → List Value → α → Prop) (Ls : List Heaplet) (css : List (List Value)) (ys : List α) : Prop where
  hL : Ls.length = ys.length
  hc : css.length = ys.length
  hk : ∀ cs ∈ css, cs.length = k
  hR : ∀ i (h : i < ys.length) (h1 : i < Ls.length) (h2 : i < css.length), R Ls[i] css[i] ys[i]
theorem Grown.nil {α : Type} (k : Nat) (R : Heaplet → List Value → α → Prop) : Grown k R [] [] ([] : List α) := ⟨rfl, rfl, by simp, fun i h => by simp at h⟩
theorem Grown.snoc {α : Type} {k : Nat} {R : Heaplet → List Value → α → Prop} {Ls : List Heaplet} {css : List (List Value)} {ys : List α} (h : Grown k R Ls css ys) {L : Heaplet} {cs : List Value} {y : α} (hR : R L cs y) (hl : cs.length = k) :
    Grown k R (Ls ++ [L]) (css ++ [cs]) (ys ++ [y]) := by
  refine ⟨by simp [h.hL], by simp [h.hc], fun c hc => ?_, fun i h0 h1 h2 => ?_⟩
  · rcases List.mem_append.1 hc with hc | hc
    · exact h.hk c hc
    · simp at hc; subst hc; exact hl
  · have e1 := h.hL
    have e2 := h.hc
    by_cases hi : i < ys.length
    · rw [List.getElem_append_left (by omega), List.getElem_append_left (by omega), List.getElem_append_left hi]
      exact h.hR i hi (by omega) (by omega)
    · have : i = ys.length := by simp at h0; omega
      subst this
      rw [List.getElem_append_right (by omega), List.getElem_append_right (by omega), List.getElem_append_right (by omega)]
      simp only [e1, e2, Nat.sub_self, List.getElem_cons_zero]
      exact hR
theorem flatten_at (k : Nat) : ∀ (css : List (List Value)) (i : Nat) (_ : ∀ cs ∈ css, cs.length = k) (h : i < css.length), (css.flatten.drop (i * k)).take k = css[i]
  | [], i, _, h => by simp at h
  | c :: css, 0, hk, _ => by
    have := hk c (List.mem_cons_self ..)
    rw [List.flatten_cons, Nat.zero_mul, List.drop_zero, List.take_append_of_le_length (by omega), List.take_of_length_le (by omega)]
    rfl
  | c :: css, i + 1, hk, h => by
    have := hk c (List.mem_cons_self ..)
    rw [List.flatten_cons, Nat.succ_mul, Nat.add_comm, ← List.drop_drop, List.drop_left' this]
    exact flatten_at k css i (fun cs hc => hk cs (List.mem_cons_of_mem _ hc)) (by simpa using h)
abbrev rowG (v : Value) (e : TypeId) (k : Nat) (css : List (List Value)) : Item := .row v e k css.length css.flatten
theorem Inv.rowTree {α : Type} {w0 w : World} {X : List Nat} {A : List Item} {S : Store} {v : Value} {e : TypeId} {k : Nat} {R : Heaplet → List Value → α → Prop} {Ls : List Heaplet} {css : List (List Value)} {ys : List α}
    (h : Inv w0 X (A ++ (rowG v e k css :: blks Ls.flatten)) S w) (hg : Grown k R Ls css ys) : ∃ L, TrSl k R L v ys ∧ Inv w0 X (A ++ blks L) S w := by
  have hp : List.Perm ((A ++ blks Ls.flatten) ++ [rowG v e k css]) (A ++ (rowG v e k css :: blks Ls.flatten)) := by
    rw [List.append_assoc]
    exact List.Perm.append_left _ List.perm_append_comm
  obtain ⟨hl, ho⟩ := (h.perm hp).openRow
  have hcy := hg.hc
  have hLy := hg.hL
  rcases ho with ⟨rfl, h0⟩ | ⟨g, cap, cur, rfl, hnc, hcm, hcs, ht, hI⟩
  · have : ys = [] := List.eq_nil_of_length_eq_zero (by omega)
    subst this
    refine ⟨[], TrSl.nil (by simp [maxLen]), ?_⟩
    simpa [blks] using h.sub (List.sublist_append_left _ _)
  · by_cases hy : ys = []
    · subst hy
      have : css = [] := List.eq_nil_of_length_eq_zero (by simpa using hcy)
      subst this
      refine ⟨[], TrSl.nil hcm, ?_⟩
      simpa [blks] using h.sub (List.sublist_append_left _ _)
    · refine ⟨(g, .cells cur e) :: Ls.flatten, ⟨_, cap, by rw [hcy], by omega, hcm, .inr ⟨g, cur, e, Ls, rfl, rfl, hLy, by omega, fun i h1 h2 => ?_⟩⟩, ?_⟩
      · have hik : i * k + k ≤ css.length * k := by rw [← Nat.succ_mul]; exact Nat.mul_le_mul_right k (by omega)
        have := flatten_at k css i hg.hk (by omega)
        rw [← ht, List.drop_take, List.take_take, Nat.min_eq_left (by omega)] at this
        rw [cellsAt, this]
        exact hg.hR i h1 h2 (by omega)
      · refine hI.perm ?_
        rw [List.append_assoc]
        exact List.Perm.append_left _ (List.perm_append_comm (l₁ := [Item.blk g (.cells cur e)]))
theorem rowG_snoc (v : Value) (e : TypeId) (k : Nat) (css : List (List Value)) (cs : List Value) : Item.row v e k (css.length + 1) (css.flatten ++ cs) = rowG v e k (css ++ [cs]) := by
  simp [rowG]
section
variable {P : Program} {w w0 : World} {X : List Nat} {L : List Item} {S : Store} {K : Value → World → Prop}
attribute [local irreducible] Run CondV GuardV LoadV
/- append(row, x): x is put into a block of its own first -/
theorem r_append1 (h : Inv w0 X L S w) {T ty e : TypeId} {k by_ : Nat} {z v : Value} {cs : List Bool} {css : List (List Value)} (i : Nat) (xs : List Value)
    (hT : mkOf P T = some (e, k, by_, z)) (hk0 : 0 < k) (hk24 : k ≤ 65536) (hi : L[i]? = some (rowG v e k css)) (hl : xs.length = k) (h1 : ∀ u ∈ xs, u.oneCell' = true) (hfit : css.length + 1 ≤ 4294967296) (hby : by_ ≤ 32768)
    (hk : ∀ v' w', Inv w0 X (L.set i (rowG v' e k (css ++ [xs]))) S w' → K v' w') :
    Run P (sBuildSlice T 1 [(0, .agg xs.toArray)]) w fun u w' => Run P (sBuiltin .append #[T, T] ty cs [v, u]) w' K := by
  refine r_slice1 h hT (by simp [Value.cells, hl]) hk24 hk0 fun b w' hI => ?_
  have hil : i < L.length := (List.getElem?_eq_some_iff.1 hi).1
  refine r_append hI i xs hT hk0 (by rw [List.getElem?_append_left hil]; exact hi) (by omega) (m := 1) (o := 0) ?_ h1 hfit hby fun v' w' hI => ?_
  · intro j u hj
    rw [hI.cellL (i := L.length) (by rw [List.getElem?_append_right (Nat.le_refl _), Nat.sub_self]; rfl)]
    rw [Nat.zero_add]
    simpa [Value.cells] using hj
  · refine hk _ _ ?_
    rw [← rowG_snoc]
    rw [List.set_append_left _ _ hil] at hI
    exact hI.sub (List.sublist_append_left _ _)
end

section
attribute [local irreducible] Run CondV GuardV LoadV
theorem ownList_of {ts : List T} (ih : ∀ t ∈ ts, ∀ (S : Store) (cs : List Value), RdT S cs t → wT t ≤ 1048576 → Tri Tryz.prog n_i_own [.agg cs.toArray] [] S (PostT S t))
    {S : Store} {v : Value} (h : RdSl S 4 (RdT S) v ts) (hw : ts.length + wL ts ≤ 1048576) : Tri Tryz.prog n_i_ownList [v] [] S (PostS 4 TrT S ts) := by
  intro w hI
  refine calls_i_ownList ?_
  unfold sh_i_ownList
  refine r_lenSl h sl_SiTerm ?_
  refine ⟨fun i t w' => ∃ (k : Nat) (Ls : List Heaplet) (css : List (List Value)), k ≤ ts.length ∧ i = .int .i64 k ∧ Grown 4 TrT Ls css (ts.take k) ∧ Inv w [] (rowG t t_iTerm 4 css :: blks Ls.flatten) S w',
    fun i _ _ => ts.length - (intOf i).toNat, ⟨0, [], [], Nat.zero_le _, rfl, Grown.nil _ _, hI.rowNil t_iTerm 4⟩, ?_⟩
  intro t8 _ t3 _ _ _ _ _ _ _ _ _ w'
  rintro ⟨k, Ls, css, hk, rfl, hg, hI⟩
  refine r_lss ?_
  refine condP (fun hki => ?_) (fun hki => ?_)
  · have hk' : k < ts.length := by omega
    have htl : (ts.take k).length = k := by simp; omega
    have hcl := hg.hc
    refine r_elem hI h sl_SiTerm ag_iTerm hk' (fun _ _ => RdT.length) fun cs hcs => ?_
    have hm := List.getElem_mem hk'
    have hwm := wL_mem hm
    have hlc := hcs.length
    refine r_alloc hI zo_iTerm fun b6 w' hI => ?_
    have hI := hI.perm (M := .blk b6 _ :: (rowG t3 t_iTerm 4 css :: blks Ls.flatten)) (List.perm_append_comm (l₁ := [_]))
    refine r_storeW hI 0 rfl ag_iTerm (by simpa using hlc) rfl (by simpa using hcs.one) fun w' hI => ?_
    refine r_loadW hI 0 ag_iTerm rfl (by simpa using hlc) ?_
    have hI : Inv w [] (rowG t3 t_iTerm 4 css :: blks Ls.flatten) S w' := hI.sub (List.sublist_cons_self _ _)
    refine Run.call0 fn_i_own nm_i_own hI (ih _ hm S cs hcs (by omega)) fun v' I' S' w' => ?_
    rintro ⟨rfl, cs', L, rfl, rfl, hT⟩ _ hI
    refine r_append1 hI 0 cs' mk_SiTerm (by omega) (by omega) rfl hT.length hT.one (by omega) (by omega) fun v' w' hI => ?_
    refine r_add (by omega) ?_
    refine ⟨⟨k + 1, Ls ++ [L], css ++ [cs'], hk', rfl, ?_, ?_⟩, by simp [intOf]; omega⟩
    · rw [List.take_succ_eq_append_getElem hk']
      exact hg.snoc hT hT.length
    · simp only [List.flatten_append, List.flatten_cons, List.flatten_nil, List.append_nil, blks_append]
      exact hI
  · have : k = ts.length := by omega
    subst this
    rw [List.take_length] at hg
    obtain ⟨L, hT, hI⟩ := Inv.rowTree (A := []) hI hg
    exact ⟨_, _, _, rfl, hI, Ext.refl _ _ _, rfl, _, rfl, hT⟩
theorem own_calls : ∀ (t : T) (S : Store) (cs : List Value), RdT S cs t → wT t ≤ 1048576 → Tri Tryz.prog n_i_own [.agg cs.toArray] [] S (PostT S t) := by
  refine T.ind fun k n s ks ih S cs h hw => ?_
  intro w hI
  obtain ⟨kv, rfl, h1, h2, hs, hks⟩ := RdT.iff.1 h
  simp only [T.name, T.kids, T.kind, T.n] at h1 h2 hs hks ⊢
  simp only [wT] at hw
  refine calls_i_own ?_
  unfold sh_i_own
  refine r_box hI fun b1 w' hI => ?_
  refine r_alloc hI zo_iTerm fun b2 w' hI => ?_
  refine r_fieldL hI 0 rfl fo_iTerm_3 sc_SiTerm rfl ?_
  refine Run.call0 fn_i_ownList nm_i_ownList hI (ownList_of ih hks (by omega)) fun v' I' S' w' => ?_
  rintro ⟨rfl, L, rfl, hT⟩ _ hI
  have hv : v'.cells = #[v'] ∧ v'.oneCell' = true := by obtain ⟨a, cap, rfl, _⟩ := hT; exact ⟨rfl, rfl⟩
  refine r_fieldSt hI 0 rfl fo_iTerm_3 sc_SiTerm rfl hv.1 hv.2 fun w' hI => ?_
  refine r_loadW hI 0 ag_iTerm rfl rfl ?_
  refine r_storeW hI 1 rfl ag_iTerm rfl rfl ?_ fun w' hI => ?_
  · intro u hu
    have hu' : u ∈ ([.int .i64 k, .int .i64 n, .string s, v'] : List Value) := hu
    simp at hu'
    rcases hu' with rfl | rfl | rfl | rfl <;> first | rfl | exact hv.2
  refine loadV_W hI 1 ag_iTerm rfl rfl ?_
  refine ⟨_, _, _, rfl, hI.sub (List.sublist_append_right [_, _] (blks L)), Ext.refl _ _ _, rfl, [.int .i64 k, .int .i64 n, .string s, v'], L, rfl, rfl, TrT.iff.2 ⟨v', rfl, h1, h2, hs, hT⟩⟩
theorem ownList_calls {ts : List T} {S : Store} {v : Value} (h : RdSl S 4 (RdT S) v ts) (hw : ts.length + wL ts ≤ 1048576) : Tri Tryz.prog n_i_ownList [v] [] S (PostS 4 TrT S ts) :=
  ownList_of (fun t _ => own_calls t) h hw
end

end Go.Proofs.YtgdibnmabnimaaaGreat

/- impl.ownClause, impl.ownProgram. -/
namespace Go.Proofs.YtgdibnmabnimaaaGreat
open Go Go.RowKit
section
variable {w : World} {K : Value → World → Prop}
attribute [local irreducible] Run
theorem r_buildClause {a b : Int} {s : ByteArray} {k v : Value} (hv : ∃ p n m, v = .slice p n m) (hk : K (.agg #[.int .i64 a, .int .i64 b, .string s, k, v]) w) : Run Tryz.prog (sBuild t_iClause [(0, .agg #[.int .i64 a, .int .i64 b, .string s, k]), (1, v)]) w K := by
  obtain ⟨p, n, m, rfl⟩ := hv
  refine Run.of (v := .agg #[.int .i64 a, .int .i64 b, .string s, k, .slice p n m]) (w' := w) ?_ hk
  unfold sBuild
  rw [Sem.run_bind, run_build w t_iClause _ #[.int .i64 a, .int .i64 b, .string s, k, .slice p n m] (by kernel_rfl), Result.andThen_ok]
  rfl
theorem r_buildHead {a b : Int} {s : ByteArray} {k : Value} (hk : K (.agg #[.int .i64 a, .int .i64 b, .string s, k, .slice none 0 0]) w) : Run Tryz.prog (sBuild t_iClause [(0, .agg #[.int .i64 a, .int .i64 b, .string s, k])]) w K := by
  refine Run.of (v := .agg #[.int .i64 a, .int .i64 b, .string s, k, .slice none 0 0]) (w' := w) ?_ hk
  unfold sBuild
  rw [Sem.run_bind, run_build w t_iClause _ #[.int .i64 a, .int .i64 b, .string s, k, .slice none 0 0] (by kernel_rfl), Result.andThen_ok]
  rfl
theorem r_buildTerm {a b : Int} {s : ByteArray} (hk : K (.agg #[.int .i64 a, .int .i64 b, .string s, .slice none 0 0]) w) : Run Tryz.prog (sBuild t_iTerm [(0, .int .i64 a), (1, .int .i64 b), (2, .string s)]) w K := by
  refine Run.of (v := .agg #[.int .i64 a, .int .i64 b, .string s, .slice none 0 0]) (w' := w) ?_ hk
  unfold sBuild
  rw [Sem.run_bind, run_build w t_iTerm _ #[.int .i64 a, .int .i64 b, .string s, .slice none 0 0] (by kernel_rfl), Result.andThen_ok]
  rfl
end
section
attribute [local irreducible] Run CondV GuardV LoadV
def occItems (B B2 B2' : Item) (M1 M2 : Heaplet) (d2 d5 d7 : Bool) : List Item := B :: (match d7 with | true => B2' | false => B2) :: ((match d2 with | true => blks M1 | false => []) ++ (match d5 with | true => blks M2 | false => []))
end

end Go.Proofs.YtgdibnmabnimaaaGreat
