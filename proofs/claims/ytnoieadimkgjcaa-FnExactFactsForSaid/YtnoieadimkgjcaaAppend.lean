/- append of a whole slice that is only read to a row of the function's own. -/
import Derived.Test.YtnoieadimkgjcaaPredL
namespace Go.Proofs.Ytnoieadimkgjcaa
open Go Go.RowKit
section
variable {P : Program} {w w0 : World} {X : List Nat} {L : List Item} {S : Store} {K : Value → World → Prop}
theorem r_append0 (h : Inv w0 X L S w) {T ty e : TypeId} {k by_ n cp : Nat} {z v : Value} {cs : List Bool} {xs : List Value} {a : Option Addr} (i : Nat)
    (hT : mkOf P T = some (e, k, by_, z)) (hi : L[i]? = some (.row v e k n xs)) (hk : K v w) :
    Run P (sBuiltin .append #[T, T] ty cs [v, .slice a 0 cp]) w K := by
  obtain ⟨hu, inf, hi', hz, hs, hb, hzs⟩ := mkOf_some hT
  have hown := h.its _ (List.mem_of_getElem? hi)
  simp only [Item.holds] at hown
  refine Run.of (v := v) (w' := w) ?_ hk
  rcases hown.2 with ⟨rfl, rfl⟩ | ⟨g, cap, cur, rfl, _, hg, hnc, hcm, hcs, ht⟩
  · cases a <;> simp [sBuiltin, builtin, Builtin.append_, run_underlying hu, sizeOf, typeInfo, hi', Builtin.lenOf, Builtin.firstCells, loadCells, loadCellsFrom]
  · cases a <;> simp [sBuiltin, builtin, Builtin.append_, run_underlying hu, sizeOf, typeInfo, hi', storeCells, hnc, Builtin.lenOf, Builtin.firstCells, loadCells, loadCellsFrom]
theorem r_appendSl {α : Type} {R : List Value → α → Prop} (h : Inv w0 X L S w) {T ty e : TypeId} {k by_ n : Nat} {z v u : Value} {cs : List Bool} {xs : List Value} {ys : List α} {f : α → List Value} (i : Nat)
    (hT : mkOf P T = some (e, k, by_, z)) (hk0 : 0 < k) (hi : L[i]? = some (.row v e k n xs)) (hr : RdSl S k R u ys) (hR : ∀ cs y, R cs y → cs = f y) (hf : ∀ y, (f y).length = k) (h1 : ∀ y, ∀ c ∈ f y, c.oneCell' = true)
    (hfit : n + ys.length ≤ 4294967296) (hby : by_ ≤ 32768)
    (hk : ∀ v' w', Inv w0 X (L.set i (.row v' e k (n + ys.length) (xs ++ ys.flatMap f))) S w' → K v' w') :
    Run P (sBuiltin .append #[T, T] ty cs [v, u]) w K := by
  obtain ⟨a, cap, rfl, hl, hc, hx⟩ := hr
  rcases hx with rfl | ⟨b, o, c, E, fz, rfl, hS, hel⟩
  · refine r_append0 h i hT hi (hk v w ?_)
    have : L.set i (.row v e k (n + ([] : List α).length) (xs ++ ([] : List α).flatMap f)) = L := by
      simp only [List.length_nil, Nat.add_zero, List.flatMap_nil, List.append_nil]
      obtain ⟨hlt, e'⟩ := List.getElem?_eq_some_iff.1 hi
      rw [← e', List.set_getElem_self]
    rw [this]
    exact h
  · refine r_append h i (ys.flatMap f) hT hk0 hi (flat_len f k hf ys) ?_ ?_ hfit hby hk
    · intro j v' hj
      have hj' : j < ys.length * k := by
        rw [← flat_len f k hf ys]
        exact (List.getElem?_eq_some_iff.1 hj).1
      have hq : j / k < ys.length := (Nat.div_lt_iff_lt_mul hk0).2 hj'
      have hcell := hR _ _ (hel (j / k) hq)
      have hflat := flat_at f k hf ys (j / k) hq
      rw [h.cellS hS]
      have e1 : (ys.flatMap f)[j]? = (f ys[j / k])[j % k]? := by
        rw [← hflat, List.getElem?_take, if_pos (Nat.mod_lt _ hk0), List.getElem?_drop]
        congr 1
        have := Nat.div_add_mod j k
        rw [Nat.mul_comm] at this
        omega
      rw [e1] at hj
      have := cellsAt_get hcell (j % k) v' hj
      rw [← this]
      congr 1
      have := Nat.div_add_mod j k
      rw [Nat.mul_comm] at this
      omega
    · intro c' hc'
      obtain ⟨y, _, hy⟩ := List.mem_flatMap.1 hc'
      exact h1 y c' hy
end

end Go.Proofs.Ytnoieadimkgjcaa
