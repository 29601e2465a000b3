/- slices.Delete on a tree of the function's own. -/
import Derived.Test.YtnoieadimkgjcaaResl
namespace Go.Proofs.Ytnoieadimkgjcaa
open Go Go.RowKit
section
variable {P : Program} {w w0 : World} {X : List Nat} {L : List Item} {S : Store} {K : Value → World → Prop}
attribute [local irreducible] Run CondV GuardV LoadV
/- append within the room of a block -/
theorem r_appendIn (h : Inv w0 X L S w) {T ty e E : TypeId} {k by_ n m g o cap cp : Nat} {z : Value} {cs : List Bool} {cur : Array Value} (i : Nat) (news : List Value) {a : Addr} (ha : a = ⟨g, o, none⟩ ∨ m = 0)
    (hT : mkOf P T = some (e, k, by_, z)) (hi : L[i]? = some (.blk g (.cells cur E))) (hl : news.length = m * k) (hnews : ∀ j u, news[j]? = some u → cur[o + j]? = some u) (h1 : ∀ u ∈ news, u.oneCell' = true)
    (hroom : n + m ≤ cap) (hfit : n * k + news.length ≤ cur.size) (hk : ∀ w', Inv w0 X (L.set i (.blk g (.cells (putCells cur (n * k) news) E))) S w' → K (.slice (some ⟨g, 0, none⟩) (n + m) cap) w') :
    Run P (sBuiltin .append #[T, T] ty cs [.slice (some ⟨g, 0, none⟩) n cap, .slice (some a) m cp]) w K := by
  obtain ⟨hu, inf, hi', hz, hs, hb, hzs⟩ := mkOf_some hT
  have hg := h.its _ (List.mem_of_getElem? hi)
  simp only [Item.holds] at hg
  have hn : ∀ j u, news[j]? = some u → w.cell? (a.add j) = some u := by
    intro j u hj
    rcases ha with rfl | rfl
    · rw [add_lit, h.cellL hi]
      exact hnews j u hj
    · rw [Nat.zero_mul] at hl
      have : news = [] := List.eq_nil_of_length_eq_zero hl
      subst this
      simp at hj
  have hf := run_firstCells_some (P := P) w inf.size m a m cp news (by rw [hs]; exact hl) hn
  have hst := run_storeCells_at P g (n * k) E news 0 cur w hg (by simpa using hfit) h1
  simp only [Nat.add_zero] at hst
  refine Run.of (v := .slice (some ⟨g, 0, none⟩) (n + m) cap) (w' := w.setRow g (putCells cur (n * k) news)) ?_ (hk _ (h.setBlk hi _ (setRow_eq hg)))
  rw [hs] at hf
  simp [sBuiltin, builtin, Builtin.append_, run_underlying hu, sizeOf, typeInfo, hi', Builtin.lenOf, hroom, hf, hs, hst, putCells, add_lit]
theorem r_clear (h : Inv w0 X L S w) {T ty e E : TypeId} {k by_ n g o cp : Nat} {z : Value} {cs : List Bool} {cur : Array Value} (i : Nat)
    (hT : mkOf P T = some (e, k, by_, z)) (hi : L[i]? = some (.blk g (.cells cur E))) (hfit : o + n * k ≤ cur.size) (hn : 0 < n) (h1 : ∀ u ∈ (Builtin.zeroCells z.cells n).toList, u.oneCell' = true)
    (hk : ∀ w', Inv w0 X (L.set i (.blk g (.cells (putCells cur o (Builtin.zeroCells z.cells n).toList) E))) S w' → K (.tuple #[]) w') :
    Run P (sBuiltin .clear #[T] ty cs [.slice (some ⟨g, o, none⟩) n cp]) w K := by
  obtain ⟨hu, inf, hi', hz, hs, hb, hzs⟩ := mkOf_some hT
  have hg := h.its _ (List.mem_of_getElem? hi)
  simp only [Item.holds] at hg
  obtain ⟨n', rfl⟩ : ∃ n', n = n' + 1 := ⟨n - 1, by omega⟩
  have hst := run_storeCells_at P g o E (Builtin.zeroCells z.cells (n' + 1)).toList 0 cur w hg (by rw [Array.length_toList, size_zeroCells, hzs]; simpa using hfit) h1
  simp only [Nat.add_zero] at hst
  refine Run.of (v := .tuple #[]) (w' := w.setRow g (putCells cur o (Builtin.zeroCells z.cells (n' + 1)).toList)) ?_ (hk _ (h.setBlk hi _ (setRow_eq hg)))
  simp [sBuiltin, builtin, Builtin.clear_, run_underlying hu, zeroValue, typeInfo, hi', hz, hst, putCells]
end
theorem cellsAt_put_in {c : Array Value} {p q k : Nat} {news : List Value} (hf : p + news.length ≤ c.size) (hq : q + k ≤ news.length) : cellsAt (putCells c p news) (p + q) k = (news.drop q).take k := by
  apply List.ext_getElem?
  intro i
  simp only [cellsAt, putCells, List.getElem?_take, List.getElem?_drop]
  split
  · rename_i hi
    simp only [List.getElem?_append, List.length_append, List.length_take, Array.length_toList]
    have e1 : min p c.size = p := by omega
    rw [e1, if_pos (by omega), if_neg (by omega)]
    congr 1
    omega
  · rfl
theorem sub_flatten {α : Type} {l m : List (List α)} (h : List.Sublist l m) : List.Sublist l.flatten m.flatten := by
  induction h with
  | slnil => exact List.Sublist.refl _
  | cons a _ ih => rw [List.flatten_cons]; exact ih.trans (List.sublist_append_right _ _)
  | cons_cons a _ ih => rw [List.flatten_cons, List.flatten_cons]; exact List.Sublist.append_left ih _

end Go.Proofs.Ytnoieadimkgjcaa
