/- Reslicing; a read slice joined to a row. -/
import Derived.Test.YtnoieadimkgjcaaRowC
namespace Go.Proofs.Ytnoieadimkgjcaa
open Go Go.RowKit

theorem sliceOf_size {P : Program} {T e : TypeId} {k : Nat} (h : sliceOf P T = some (e, k)) : P.underlying T = some (.slice e) ∧ ∃ i, P.info? e = some i ∧ i.size = k := by
  unfold sliceOf at h
  split at h
  · rename_i e1 he
    rw [Option.map_eq_some_iff] at h
    obtain ⟨i, hi, hx⟩ := h
    simp only [Prod.mk.injEq] at hx
    obtain ⟨rfl, rfl⟩ := hx
    exact ⟨he, i, hi, rfl⟩
  · cases h
section
variable {P : Program} {w : World} {K : Value → World → Prop}
attribute [local irreducible] Run
theorem run_bound {n y : Nat} {code : BoundsCode} (h : n ≤ y) : (Instr.sliceBound (.int .i64 n) y code).run P w = .ok n w := by
  have h1 : (0 : Int) ≤ (n : Int) ∧ (n : Int) ≤ (y : Int) := by omega
  simp [Instr.sliceBound, asIntOf, h]
theorem r_slTo {T ty e : TypeId} {k h len cap : Nat} {a : Option Addr} (hT : sliceOf P T = some (e, k)) (hh : h ≤ cap) (hk : K (.slice (if cap = 0 then a else a.map (·.add (0 * k))) h cap) w) :
    Run P (sOp (.slice T (.const (.slice a len cap)) none (some (.const (.int .i64 h))) none) ty) w K := by
  obtain ⟨hu, i, hi, _⟩ := sliceOf_size hT
  refine Run.of ?_ hk
  simp [sOp, execOp, ev0, evE, Instr.sliceAt, Instr.slice, Instr.sliceBounds, run_underlying hu, run_bound hh, sizeOf, typeInfo, hi]
theorem r_slFrom {T ty e : TypeId} {k l len cap : Nat} {a : Option Addr} (hT : sliceOf P T = some (e, k)) (hl : l ≤ len) (hk : K (.slice (if cap = l then a else a.map (·.add (l * k))) (len - l) (cap - l)) w) :
    Run P (sOp (.slice T (.const (.slice a len cap)) (some (.const (.int .i64 l))) none none) ty) w K := by
  obtain ⟨hu, i, hi, hs⟩ := sliceOf_size hT
  refine Run.of ?_ hk
  simp [sOp, execOp, ev0, evE, Instr.sliceAt, Instr.slice, Instr.sliceBounds, run_underlying hu, run_bound hl, sizeOf, typeInfo, hi, hs]
theorem r_slMid {T ty e : TypeId} {k l h len cap : Nat} {a : Option Addr} (hT : sliceOf P T = some (e, k)) (hl : l ≤ h) (hh : h ≤ cap) (hk : K (.slice (if cap = l then a else a.map (·.add (l * k))) (h - l) (cap - l)) w) :
    Run P (sOp (.slice T (.const (.slice a len cap)) (some (.const (.int .i64 l))) (some (.const (.int .i64 h))) none) ty) w K := by
  obtain ⟨hu, i, hi, hs⟩ := sliceOf_size hT
  refine Run.of ?_ hk
  simp [sOp, execOp, ev0, evE, Instr.sliceAt, Instr.slice, Instr.sliceBounds, run_underlying hu, run_bound hl, run_bound hh, sizeOf, typeInfo, hi, hs]
theorem r_slMax {T ty e : TypeId} {k l h m len cap : Nat} {a : Option Addr} (hT : sliceOf P T = some (e, k)) (hl : l ≤ h) (hh : h ≤ m) (hm : m ≤ cap) (hk : K (.slice (if m = l then a else a.map (·.add (l * k))) (h - l) (m - l)) w) :
    Run P (sOp (.slice T (.const (.slice a len cap)) (some (.const (.int .i64 l))) (some (.const (.int .i64 h))) (some (.const (.int .i64 m)))) ty) w K := by
  obtain ⟨hu, i, hi, hs⟩ := sliceOf_size hT
  refine Run.of ?_ hk
  simp [sOp, execOp, ev0, evE, Instr.sliceAt, Instr.slice, Instr.sliceBounds, run_underlying hu, run_bound hl, run_bound hh, run_bound hm, sizeOf, typeInfo, hi, hs]
end
theorem RdSl.to {α : Type} {S : Store} {k : Nat} {R : List Value → α → Prop} {a : Option Addr} {cap n h : Nat} {xs : List α} (hx : RdSl S k R (.slice a n cap) xs) (hh : h ≤ xs.length) :
    RdSl S k R (.slice (if cap = 0 then a else a.map (·.add (0 * k))) h cap) (xs.take h) := by
  obtain ⟨a', cap', e, hl, hc, hx⟩ := hx
  simp only [Value.slice.injEq] at e
  obtain ⟨rfl, rfl, rfl⟩ := e
  have e1 : (if cap = 0 then a else a.map (·.add (0 * k))) = a := by
    split
    · rfl
    · cases a <;> simp [Addr.add]
  rw [e1]
  have e2 : h = (xs.take h).length := by rw [List.length_take]; omega
  refine ⟨a, cap, by rw [← e2], by omega, hc, ?_⟩
  rcases hx with rfl | ⟨b, o, c, E, fz, rfl, hS, hR⟩
  · left; simp
  · right
    refine ⟨b, o, c, E, fz, rfl, hS, fun i hi => ?_⟩
    rw [List.getElem_take]
    exact hR i (by omega)
theorem RdSl.from {α : Type} {S : Store} {k : Nat} {R : List Value → α → Prop} {a : Option Addr} {cap n l : Nat} {xs : List α} (hx : RdSl S k R (.slice a n cap) xs) (hl : l ≤ xs.length) :
    RdSl S k R (.slice (if cap = l then a else a.map (·.add (l * k))) (n - l) (cap - l)) (xs.drop l) := by
  obtain ⟨a', cap', e, hlc, hc, hx⟩ := hx
  simp only [Value.slice.injEq] at e
  obtain ⟨rfl, rfl, rfl⟩ := e
  refine ⟨_, cap - l, by rw [List.length_drop], by rw [List.length_drop]; omega, by omega, ?_⟩
  by_cases hd : xs.drop l = []
  · exact .inl hd
  · rcases hx with rfl | ⟨b, o, c, E, fz, rfl, hS, hR⟩
    · simp at hd
    · right
      have hlt : l < xs.length := by
        rcases Nat.lt_or_ge l xs.length with h | h
        · exact h
        · exact absurd (List.drop_eq_nil_of_le h) hd
      refine ⟨b, o + l * k, c, E, fz, ?_, hS, fun i hi => ?_⟩
      · rw [if_neg (by omega)]
        simp [Addr.add]
      · rw [List.getElem_drop]
        have := hR (l + i) (by simp at hi; omega)
        rwa [Nat.add_mul, ← Nat.add_assoc] at this
section
variable {P : Program} {w w0 : World} {X : List Nat} {L : List Item} {S : Store} {K : Value → World → Prop}
attribute [local irreducible] Run CondV GuardV LoadV
theorem r_sliceTo {α : Type} {R : List Value → α → Prop} {xs : List α} {v : Value} {T ty e : TypeId} {k h : Nat} (hT : sliceOf P T = some (e, k)) (hx : RdSl S k R v xs) (hh : h ≤ xs.length)
    (hk : ∀ v', RdSl S k R v' (xs.take h) → K v' w) : Run P (sOp (.slice T (.const v) none (some (.const (.int .i64 h))) none) ty) w K := by
  obtain ⟨a, cap, rfl, hl, hc, hx'⟩ := id hx
  exact r_slTo hT (by omega) (hk _ (hx.to hh))
theorem r_sliceFrom {α : Type} {R : List Value → α → Prop} {xs : List α} {v : Value} {T ty e : TypeId} {k l : Nat} (hT : sliceOf P T = some (e, k)) (hx : RdSl S k R v xs) (hl : l ≤ xs.length)
    (hk : ∀ v', RdSl S k R v' (xs.drop l) → K v' w) : Run P (sOp (.slice T (.const v) (some (.const (.int .i64 l))) none none) ty) w K := by
  obtain ⟨a, cap, rfl, hl', hc, hx'⟩ := id hx
  exact r_slFrom hT hl (hk _ (hx.from hl))
end
theorem RdSl.exact {α : Type} {S : Store} {k : Nat} {R : List Value → α → Prop} {v : Value} {ys : List α} (h : RdSl S k R v ys) (hk : ∀ cs y, R cs y → cs.length = k) :
    ∃ ds : List {cs : List Value // cs.length = k}, RdSl S k (fun cs d => cs = d.val) v ds ∧ Rows k R (ds.map (·.val)) ys := by
  obtain ⟨a, cap, rfl, hl, hc, hx⟩ := h
  rcases hx with rfl | ⟨b, o, c, E, fz, rfl, hS, hR⟩
  · exact ⟨[], ⟨a, cap, rfl, hl, hc, .inl rfl⟩, Rows.nil _ _⟩
  · refine ⟨List.ofFn fun i : Fin ys.length => ⟨cellsAt c (o + i.val * k) k, hk _ _ (hR i.val i.isLt)⟩, ⟨_, cap, by rw [List.length_ofFn], by rw [List.length_ofFn]; exact hl, hc, .inr ⟨b, o, c, E, fz, rfl, hS, fun i hi => by simp⟩⟩, ⟨by simp, fun cs hcs => ?_, fun i h1 h2 => ?_⟩⟩
    · obtain ⟨d, _, rfl⟩ := List.mem_map.1 hcs
      exact d.property
    · simp only [List.getElem_map, List.getElem_ofFn]
      exact hR i h1
section
variable {P : Program} {w w0 : World} {X : List Nat} {L : List Item} {S : Store} {K : Value → World → Prop}
attribute [local irreducible] Run CondV GuardV LoadV
theorem r_appendRd {α : Type} {R : List Value → α → Prop} (h : Inv w0 X L S w) {T ty e : TypeId} {k by_ : Nat} {z v u : Value} {cs : List Bool} {css : List (List Value)} {ys : List α} (i : Nat)
    (hT : mkOf P T = some (e, k, by_, z)) (hk0 : 0 < k) (hi : L[i]? = some (rowG v e k css)) (hr : RdSl S k R u ys) (hlen : ∀ cs y, R cs y → cs.length = k) (h1 : ∀ cs y, R cs y → ∀ c ∈ cs, c.oneCell' = true)
    (hfit : css.length + ys.length ≤ 4294967296) (hby : by_ ≤ 32768) (hk : ∀ v' w' css2, Rows k R css2 ys → Inv w0 X (L.set i (rowG v' e k (css ++ css2))) S w' → K v' w') :
    Run P (sBuiltin .append #[T, T] ty cs [v, u]) w K := by
  obtain ⟨ds, hd, hR⟩ := hr.exact hlen
  have hdl : ds.length = ys.length := by have := hR.hc; simpa using this
  have hone : ∀ d ∈ ds, ∀ c ∈ d.val, c.oneCell' = true := by
    intro d hd' c hc
    obtain ⟨j, hj, rfl⟩ := List.mem_iff_getElem.1 hd'
    have := hR.hR j (by omega) (by simpa using hj)
    simp only [List.getElem_map] at this
    exact h1 _ _ this c hc
  obtain ⟨a, cap, rfl, hl', hc', hx⟩ := id hd
  have e1 : ∀ v', Item.row v' e k (css.length + ds.length) (css.flatten ++ (ds.map (·.val)).flatten) = rowG v' e k (css ++ ds.map (·.val)) := fun v' => by simp [rowG]
  rcases hx with rfl | ⟨b, o, c, E, fz, rfl, hS, hel⟩
  · refine r_append0 h i hT hi (hk v w [] (by simpa using hR) ?_)
    have : L.set i (rowG v e k (css ++ [])) = L := by
      obtain ⟨hlt, e'⟩ := List.getElem?_eq_some_iff.1 hi
      rw [List.append_nil, ← e', List.set_getElem_self]
    rw [this]
    exact h
  · have hfl : (ds.map (·.val)).flatten.length = ds.length * k := by
      rw [flatten_len (k := k) (fun cs hcs => by obtain ⟨d, _, rfl⟩ := List.mem_map.1 hcs; exact d.property), List.length_map]
    refine r_append h i (ds.map (·.val)).flatten hT hk0 hi hfl ?_ ?_ (by omega) hby fun v' w' hI => hk _ _ _ hR ?_
    · intro j u hj
      have hj' : j < ds.length * k := by
        rw [← hfl]
        exact (List.getElem?_eq_some_iff.1 hj).1
      have hq : j / k < ds.length := (Nat.div_lt_iff_lt_mul hk0).2 hj'
      have hcell := hel (j / k) hq
      have hflat := flatten_at k (ds.map (·.val)) (j / k) (fun cs hcs => by obtain ⟨d, _, rfl⟩ := List.mem_map.1 hcs; exact d.property) (by simpa using hq)
      have hdm := Nat.div_add_mod j k
      rw [Nat.mul_comm] at hdm
      rw [h.cellS hS]
      have e2 : (ds.map (·.val)).flatten[j]? = (ds[j / k].val)[j % k]? := by
        rw [List.getElem_map] at hflat
        rw [← hflat, List.getElem?_take, if_pos (Nat.mod_lt _ hk0), List.getElem?_drop]
        congr 1
        omega
      rw [e2] at hj
      have := cellsAt_get hcell (j % k) u hj
      rw [← this]
      congr 1
      omega
    · intro u hu
      obtain ⟨cs, hcs, hu⟩ := List.mem_flatten.1 hu
      obtain ⟨d, hd', rfl⟩ := List.mem_map.1 hcs
      exact hone d hd' u hu
    · rw [← e1]
      exact hI
end

end Go.Proofs.Ytnoieadimkgjcaa
