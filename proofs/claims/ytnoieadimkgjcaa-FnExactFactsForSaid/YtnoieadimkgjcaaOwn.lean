/- Trees grown by append; impl.own and its kin. -/
import Derived.Test.YtnoieadimkgjcaaPredM
namespace Go.Proofs.Ytnoieadimkgjcaa
open Go Go.RowKit

structure Grown {α : Type} (k : Nat) (R : Heaplet → List Value → α → Prop) (Ls : List Heaplet) (css : List (List Value)) (ys : List α) : Prop where
  hL : Ls.length = ys.length
  hc : css.length = ys.length
  hk : ∀ cs ∈ css, cs.length = k
  hR : ∀ i (h : i < ys.length) (h1 : i < Ls.length) (h2 : i < css.length), R Ls[i] css[i] ys[i]
theorem Grown.nil {α : Type} (k : Nat) (R : Heaplet → List Value → α → Prop) : Grown k R [] [] ([] : List α) := ⟨rfl, rfl, by simp, fun i h => by simp at h⟩
theorem Grown.snoc {α : Type} {k : Nat} {R : Heaplet → List Value → α → Prop} {Ls : List Heaplet} {css : List (List Value)} {ys : List α} (h : Grown k R Ls css ys) {L : Heaplet} {cs : List Value} {y : α} (hR : R L cs y) (hl : cs.length = k) :
    Grown k R (Ls ++ [L]) (css ++ [cs]) (ys ++ [y]) := by
  refine ⟨by simp [h.hL], by simp [h.hc], fun c hc => ?_, fun i h0 h1 h2 => ?_⟩
  · rcases List.mem_append.1 hc with hc | hc
    · exact h.hk c hc
    · simp at hc; subst hc; exact hl
  · have e1 := h.hL
    have e2 := h.hc
    by_cases hi : i < ys.length
    · rw [List.getElem_append_left (by omega), List.getElem_append_left (by omega), List.getElem_append_left hi]
      exact h.hR i hi (by omega) (by omega)
    · have : i = ys.length := by simp at h0; omega
      subst this
      rw [List.getElem_append_right (by omega), List.getElem_append_right (by omega), List.getElem_append_right (by omega)]
      simp only [e1, e2, Nat.sub_self, List.getElem_cons_zero]
      exact hR
theorem flatten_at (k : Nat) : ∀ (css : List (List Value)) (i : Nat) (_ : ∀ cs ∈ css, cs.length = k) (h : i < css.length), (css.flatten.drop (i * k)).take k = css[i]
  | [], i, _, h => by simp at h
  | c :: css, 0, hk, _ => by
    have := hk c (List.mem_cons_self ..)
    rw [List.flatten_cons, Nat.zero_mul, List.drop_zero, List.take_append_of_le_length (by omega), List.take_of_length_le (by omega)]
    rfl
  | c :: css, i + 1, hk, h => by
    have := hk c (List.mem_cons_self ..)
    rw [List.flatten_cons, Nat.succ_mul, Nat.add_comm, ← List.drop_drop, List.drop_left' this]
    exact flatten_at k css i (fun cs hc => hk cs (List.mem_cons_of_mem _ hc)) (by simpa using h)
abbrev rowG (v : Value) (e : TypeId) (k : Nat) (css : List (List Value)) : Item := .row v e k css.length css.flatten
theorem Inv.rowTree {α : Type} {w0 w : World} {X : List Nat} {A : List Item} {S : Store} {v : Value} {e : TypeId} {k : Nat} {R : Heaplet → List Value → α → Prop} {Ls : List Heaplet} {css : List (List Value)} {ys : List α}
    (h : Inv w0 X (A ++ (rowG v e k css :: blks Ls.flatten)) S w) (hg : Grown k R Ls css ys) : ∃ L, TrSl k R L v ys ∧ Inv w0 X (A ++ blks L) S w := by
  have hp : List.Perm ((A ++ blks Ls.flatten) ++ [rowG v e k css]) (A ++ (rowG v e k css :: blks Ls.flatten)) := by
    rw [List.append_assoc]
    exact List.Perm.append_left _ List.perm_append_comm
  obtain ⟨hl, ho⟩ := (h.perm hp).openRow
  have hcy := hg.hc
  have hLy := hg.hL
  rcases ho with ⟨rfl, h0⟩ | ⟨g, cap, cur, rfl, hnc, hcm, hcs, ht, hI⟩
  · have : ys = [] := List.eq_nil_of_length_eq_zero (by omega)
    subst this
    refine ⟨[], TrSl.nil (by simp [maxLen]), ?_⟩
    simpa [blks] using h.sub (List.sublist_append_left _ _)
  · by_cases hy : ys = []
    · subst hy
      have : css = [] := List.eq_nil_of_length_eq_zero (by simpa using hcy)
      subst this
      refine ⟨[], TrSl.nil hcm, ?_⟩
      simpa [blks] using h.sub (List.sublist_append_left _ _)
    · refine ⟨(g, .cells cur e) :: Ls.flatten, ⟨_, cap, by rw [hcy], by omega, hcm, .inr ⟨g, cur, e, Ls, rfl, rfl, hLy, by omega, fun i h1 h2 => ?_⟩⟩, ?_⟩
      · have hik : i * k + k ≤ css.length * k := by rw [← Nat.succ_mul]; exact Nat.mul_le_mul_right k (by omega)
        have := flatten_at k css i hg.hk (by omega)
        rw [← ht, List.drop_take, List.take_take, Nat.min_eq_left (by omega)] at this
        rw [cellsAt, this]
        exact hg.hR i h1 h2 (by omega)
      · refine hI.perm ?_
        rw [List.append_assoc]
        exact List.Perm.append_left _ (List.perm_append_comm (l₁ := [Item.blk g (.cells cur e)]))
theorem rowG_snoc (v : Value) (e : TypeId) (k : Nat) (css : List (List Value)) (cs : List Value) : Item.row v e k (css.length + 1) (css.flatten ++ cs) = rowG v e k (css ++ [cs]) := by
  simp [rowG]
section
variable {P : Program} {w w0 : World} {X : List Nat} {L : List Item} {S : Store} {K : Value → World → Prop}
attribute [local irreducible] Run CondV GuardV LoadV
/- append(row, x): x is put into a block of its own first -/
theorem r_append1 (h : Inv w0 X L S w) {T ty e : TypeId} {k by_ : Nat} {z v : Value} {cs : List Bool} {css : List (List Value)} (i : Nat) (xs : List Value)
    (hT : mkOf P T = some (e, k, by_, z)) (hk0 : 0 < k) (hk24 : k ≤ 65536) (hi : L[i]? = some (rowG v e k css)) (hl : xs.length = k) (h1 : ∀ u ∈ xs, u.oneCell' = true) (hfit : css.length + 1 ≤ 4294967296) (hby : by_ ≤ 32768)
    (hk : ∀ v' w', Inv w0 X (L.set i (rowG v' e k (css ++ [xs]))) S w' → K v' w') :
    Run P (sBuildSlice T 1 [(0, .agg xs.toArray)]) w fun u w' => Run P (sBuiltin .append #[T, T] ty cs [v, u]) w' K := by
  refine r_slice1 h hT (by simp [Value.cells, hl]) hk24 hk0 fun b w' hI => ?_
  have hil : i < L.length := (List.getElem?_eq_some_iff.1 hi).1
  refine r_append hI i xs hT hk0 (by rw [List.getElem?_append_left hil]; exact hi) (by omega) (m := 1) (o := 0) ?_ h1 hfit hby fun v' w' hI => ?_
  · intro j u hj
    rw [hI.cellL (i := L.length) (by rw [List.getElem?_append_right (Nat.le_refl _), Nat.sub_self]; rfl)]
    rw [Nat.zero_add]
    simpa [Value.cells] using hj
  · refine hk _ _ ?_
    rw [← rowG_snoc]
    rw [List.set_append_left _ _ hil] at hI
    exact hI.sub (List.sublist_append_left _ _)
end

section
attribute [local irreducible] Run CondV GuardV LoadV
theorem ownList_of {ts : List T} (ih : ∀ t ∈ ts, ∀ (S : Store) (cs : List Value), RdT S cs t → wT t ≤ 1048576 → Tri Try.prog n_i_own [.agg cs.toArray] [] S (PostT S t))
    {S : Store} {v : Value} (h : RdSl S 4 (RdT S) v ts) (hw : ts.length + wL ts ≤ 1048576) : Tri Try.prog n_i_ownList [v] [] S (PostS 4 TrT S ts) := by
  intro w hI
  refine calls_i_ownList ?_
  unfold sh_i_ownList
  refine r_lenSl h sl_SiTerm ?_
  refine ⟨fun i t w' => ∃ (k : Nat) (Ls : List Heaplet) (css : List (List Value)), k ≤ ts.length ∧ i = .int .i64 k ∧ Grown 4 TrT Ls css (ts.take k) ∧ Inv w [] (rowG t t_iTerm 4 css :: blks Ls.flatten) S w',
    fun i _ _ => ts.length - (intOf i).toNat, ⟨0, [], [], Nat.zero_le _, rfl, Grown.nil _ _, hI.rowNil t_iTerm 4⟩, ?_⟩
  intro t8 _ t3 _ _ _ _ _ _ _ _ _ w'
  rintro ⟨k, Ls, css, hk, rfl, hg, hI⟩
  refine r_lss ?_
  refine condP (fun hki => ?_) (fun hki => ?_)
  · have hk' : k < ts.length := by omega
    have htl : (ts.take k).length = k := by simp; omega
    have hcl := hg.hc
    refine r_elem hI h sl_SiTerm ag_iTerm hk' (fun _ _ => RdT.length) fun cs hcs => ?_
    have hm := List.getElem_mem hk'
    have hwm := wL_mem hm
    have hlc := hcs.length
    refine r_alloc hI zo_iTerm fun b6 w' hI => ?_
    have hI := hI.perm (M := .blk b6 _ :: (rowG t3 t_iTerm 4 css :: blks Ls.flatten)) (List.perm_append_comm (l₁ := [_]))
    refine r_storeW hI 0 rfl ag_iTerm (by simpa using hlc) rfl (by simpa using hcs.one) fun w' hI => ?_
    refine r_loadW hI 0 ag_iTerm rfl (by simpa using hlc) ?_
    have hI : Inv w [] (rowG t3 t_iTerm 4 css :: blks Ls.flatten) S w' := hI.sub (List.sublist_cons_self _ _)
    refine Run.call0 fn_i_own nm_i_own hI (ih _ hm S cs hcs (by omega)) fun v' I' S' w' => ?_
    rintro ⟨rfl, cs', L, rfl, rfl, hT⟩ _ hI
    refine r_append1 hI 0 cs' mk_SiTerm (by omega) (by omega) rfl hT.length hT.one (by omega) (by omega) fun v' w' hI => ?_
    refine r_add (by omega) ?_
    refine ⟨⟨k + 1, Ls ++ [L], css ++ [cs'], hk', rfl, ?_, ?_⟩, by simp [intOf]; omega⟩
    · rw [List.take_succ_eq_append_getElem hk']
      exact hg.snoc hT hT.length
    · simp only [List.flatten_append, List.flatten_cons, List.flatten_nil, List.append_nil, blks_append]
      exact hI
  · have : k = ts.length := by omega
    subst this
    rw [List.take_length] at hg
    obtain ⟨L, hT, hI⟩ := Inv.rowTree (A := []) hI hg
    exact ⟨_, _, _, rfl, hI, Ext.refl _ _ _, rfl, _, rfl, hT⟩
theorem own_calls : ∀ (t : T) (S : Store) (cs : List Value), RdT S cs t → wT t ≤ 1048576 → Tri Try.prog n_i_own [.agg cs.toArray] [] S (PostT S t) := by
  refine T.ind fun k n s ks ih S cs h hw => ?_
  intro w hI
  obtain ⟨kv, rfl, h1, h2, hs, hks⟩ := RdT.iff.1 h
  simp only [T.name, T.kids, T.kind, T.n] at h1 h2 hs hks ⊢
  simp only [wT] at hw
  refine calls_i_own ?_
  unfold sh_i_own
  refine r_box hI fun b1 w' hI => ?_
  refine r_alloc hI zo_iTerm fun b2 w' hI => ?_
  refine r_fieldL hI 0 rfl fo_iTerm_3 sc_SiTerm rfl ?_
  refine Run.call0 fn_i_ownList nm_i_ownList hI (ownList_of ih hks (by omega)) fun v' I' S' w' => ?_
  rintro ⟨rfl, L, rfl, hT⟩ _ hI
  have hv : v'.cells = #[v'] ∧ v'.oneCell' = true := by obtain ⟨a, cap, rfl, _⟩ := hT; exact ⟨rfl, rfl⟩
  refine r_fieldSt hI 0 rfl fo_iTerm_3 sc_SiTerm rfl hv.1 hv.2 fun w' hI => ?_
  refine r_loadW hI 0 ag_iTerm rfl rfl ?_
  refine r_storeW hI 1 rfl ag_iTerm rfl rfl ?_ fun w' hI => ?_
  · intro u hu
    have hu' : u ∈ ([.int .i64 k, .int .i64 n, .string s, v'] : List Value) := hu
    simp at hu'
    rcases hu' with rfl | rfl | rfl | rfl <;> first | rfl | exact hv.2
  refine loadV_W hI 1 ag_iTerm rfl rfl ?_
  refine ⟨_, _, _, rfl, hI.sub (List.sublist_append_right [_, _] (blks L)), Ext.refl _ _ _, rfl, [.int .i64 k, .int .i64 n, .string s, v'], L, rfl, rfl, TrT.iff.2 ⟨v', rfl, h1, h2, hs, hT⟩⟩
theorem ownList_calls {ts : List T} {S : Store} {v : Value} (h : RdSl S 4 (RdT S) v ts) (hw : ts.length + wL ts ≤ 1048576) : Tri Try.prog n_i_ownList [v] [] S (PostS 4 TrT S ts) :=
  ownList_of (fun t _ => own_calls t) h hw
end

end Go.Proofs.Ytnoieadimkgjcaa
