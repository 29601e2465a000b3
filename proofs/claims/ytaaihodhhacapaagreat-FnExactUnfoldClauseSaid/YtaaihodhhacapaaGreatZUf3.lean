/- Trees grown by append; impl.own and its kin. -/
import Derived.Test.YtaaihodhhacapaaGreatZUf2
import Derived.Test.YtaaihodhhacapaaGreatZUf1
namespace Go.Proofs.YtaaihodhhacapaaGreat
open Go Go.RowKit

structure Grown {α : Type} (k : Nat) (R : Heaplet → List Value → α → Prop) (Ls : List Heaplet) (css : List (List Value)) (ys : List α) : Prop where
  hL : Ls.length = ys.length
  hc : css.length = ys.length
  hk : ∀ cs ∈ css, cs.length = k
  hR : ∀ i (h : i < ys.length) (h1 : i < Ls.length) (h2 : i < css.length), R Ls[i] css[i] ys[i]
theorem Grown.nil {α : Type} (k : Nat) (R : Heaplet → List Value → α → Prop) : Grown k R [] [] ([] : List α) := ⟨rfl, rfl, by simp, fun i h => by simp at h⟩
theorem Grown.snoc {α : Type} {k : Nat} {R : Heaplet → List Value → α → Prop} {Ls : List Heaplet} {css : List (List Value)} {ys : List α} (h : Grown k R Ls css ys) {L : Heaplet} {cs : List Value} {y : α} (hR : R L cs y) (hl : cs.length = k) :
    Grown k R (Ls ++ [L]) (css ++ [cs]) (ys ++ [y]) := by
  refine ⟨by simp [h.hL], by simp [h.hc], fun c hc => ?_, fun i h0 h1 h2 => ?_⟩
  · rcases List.mem_append.1 hc with hc | hc
    · exact h.hk c hc
    · simp at hc; subst hc; exact hl
  · have e1 := h.hL
    have e2 := h.hc
    by_cases hi : i < ys.length
    · rw [List.getElem_append_left (by omega), List.getElem_append_left (by omega), List.getElem_append_left hi]
      exact h.hR i hi (by omega) (by omega)
    · have : i = ys.length := by simp at h0; omega
      subst this
      rw [List.getElem_append_right (by omega), List.getElem_append_right (by omega), List.getElem_append_right (by omega)]
      simp only [e1, e2, Nat.sub_self, List.getElem_cons_zero]
      exact hR
theorem flatten_at (k : Nat) : ∀ (css : List (List Value)) (i : Nat) (_ : ∀ cs ∈ css, cs.length = k) (h : i < css.length), (css.flatten.drop (i * k)).take k = css[i]
  | [], i, _, h => by simp at h
  | c :: css, 0, hk, _ => by
    have := hk c (List.mem_cons_self ..)
    rw [List.flatten_cons, Nat.zero_mul, List.drop_zero, List.take_append_of_le_length (by omega), List.take_of_length_le (by omega)]
    rfl
  | c :: css, i + 1, hk, h => by
    have := hk c (List.mem_cons_self ..)
    rw [List.flatten_cons, Nat.succ_mul, Nat.add_comm, ← List.drop_drop, List.drop_left' this]
    exact flatten_at k css i (fun cs hc => hk cs (List.mem_cons_of_mem _ hc)) (by simpa using h)
abbrev rowG (v : Value) (e : TypeId) (k : Nat) (css : List (List Value)) : Item := .row v e k css.length css.flatten
theorem Inv.rowTree {α : Type} {w0 w : World} {X : List Nat} {A : List Item} {S : Store} {v : Value} {e : TypeId} {k : Nat} {R : Heaplet → List Value → α → Prop} {Ls : List Heaplet} {css : List (List Value)} {ys : List α}
    (h : Inv w0 X (A ++ (rowG v e k css :: blks Ls.flatten)) S w) (hg : Grown k R Ls css ys) : ∃ L, TrSl k R L v ys ∧ Inv w0 X (A ++ blks L) S w := by
  have hp : List.Perm ((A ++ blks Ls.flatten) ++ [rowG v e k css]) (A ++ (rowG v e k css :: blks Ls.flatten)) := by
    rw [List.append_assoc]
    exact List.Perm.append_left _ List.perm_append_comm
  obtain ⟨hl, ho⟩ := (h.perm hp).openRow
  have hcy := hg.hc
  have hLy := hg.hL
  rcases ho with ⟨rfl, h0⟩ | ⟨g, cap, cur, rfl, hnc, hcm, hcs, ht, hI⟩
  · have : ys = [] := List.eq_nil_of_length_eq_zero (by omega)
    subst this
    refine ⟨[], TrSl.nil (by simp [maxLen]), ?_⟩
    simpa [blks] using h.sub (List.sublist_append_left _ _)
  · by_cases hy : ys = []
    · subst hy
      have : css = [] := List.eq_nil_of_length_eq_zero (by simpa using hcy)
      subst this
      refine ⟨[], TrSl.nil hcm, ?_⟩
      simpa [blks] using h.sub (List.sublist_append_left _ _)
    · refine ⟨(g, .cells cur e) :: Ls.flatten, ⟨_, cap, by rw [hcy], by omega, hcm, .inr ⟨g, cur, e, Ls, rfl, rfl, hLy, by omega, fun i h1 h2 => ?_⟩⟩, ?_⟩
      · have hik : i * k + k ≤ css.length * k := by rw [← Nat.succ_mul]; exact Nat.mul_le_mul_right k (by omega)
        have := flatten_at k css i hg.hk (by omega)
        rw [← ht, List.drop_take, List.take_take, Nat.min_eq_left (by omega)] at this
        rw [cellsAt, this]
        exact hg.hR i h1 h2 (by omega)
      · refine hI.perm ?_
        rw [List.append_assoc]
        exact List.Perm.append_left _ (List.perm_append_comm (l₁ := [Item.blk g (.cells cur e)]))
theorem rowG_snoc (v : Value) (e : TypeId) (k : Nat) (css : List (List Value)) (cs : List Value) : Item.row v e k (css.length + 1) (css.flatten ++ cs) = rowG v e k (css ++ [cs]) := by
  simp [rowG]
section
variable {P : Program} {w w0 : World} {X : List Nat} {L : List Item} {S : Store} {K : Value → World → Prop}
attribute [local irreducible] Run CondV GuardV LoadV
/- append(row, x): x is put into a block of its own first -/
theorem r_append1 (h : Inv w0 X L S w) {T ty e : TypeId} {k by_ : Nat} {z v : Value} {cs : List Bool} {css : List (List Value)} (i : Nat) (xs : List Value)
    (hT : mkOf P T = some (e, k, by_, z)) (hk0 : 0 < k) (hk24 : k ≤ 65536) (hi : L[i]? = some (rowG v e k css)) (hl : xs.length = k) (h1 : ∀ u ∈ xs, u.oneCell' = true) (hfit : css.length + 1 ≤ 4294967296) (hby : by_ ≤ 32768)
    (hk : ∀ v' w', Inv w0 X (L.set i (rowG v' e k (css ++ [xs]))) S w' → K v' w') :
    Run P (sBuildSlice T 1 [(0, .agg xs.toArray)]) w fun u w' => Run P (sBuiltin .append #[T, T] ty cs [v, u]) w' K := by
  refine r_slice1 h hT (by simp [Value.cells, hl]) hk24 hk0 fun b w' hI => ?_
  have hil : i < L.length := (List.getElem?_eq_some_iff.1 hi).1
  refine r_append hI i xs hT hk0 (by rw [List.getElem?_append_left hil]; exact hi) (by omega) (m := 1) (o := 0) ?_ h1 hfit hby fun v' w' hI => ?_
  · intro j u hj
    rw [hI.cellL (i := L.length) (by rw [List.getElem?_append_right (Nat.le_refl _), Nat.sub_self]; rfl)]
    rw [Nat.zero_add]
    simpa [Value.cells] using hj
  · refine hk _ _ ?_
    rw [← rowG_snoc]
    rw [List.set_append_left _ _ hil] at hI
    exact hI.sub (List.sublist_append_left _ _)
end

section
attribute [local irreducible] Run CondV GuardV LoadV
theorem ownList_of {ts : List T} (ih : ∀ t ∈ ts, ∀ (S : Store) (cs : List Value), RdT S cs t → wT t ≤ 1048576 → Tri Tryz.prog n_i_own [.agg cs.toArray] [] S (PostT S t))
    {S : Store} {v : Value} (h : RdSl S 4 (RdT S) v ts) (hw : ts.length + wL ts ≤ 1048576) : Tri Tryz.prog n_i_ownList [v] [] S (PostS 4 TrT S ts) := by
  intro w hI
  refine calls_i_ownList ?_
  unfold sh_i_ownList
  refine r_lenSl h sl_SiTerm ?_
  refine ⟨fun i t w' => ∃ (k : Nat) (Ls : List Heaplet) (css : List (List Value)), k ≤ ts.length ∧ i = .int .i64 k ∧ Grown 4 TrT Ls css (ts.take k) ∧ Inv w [] (rowG t t_iTerm 4 css :: blks Ls.flatten) S w',
    fun i _ _ => ts.length - (intOf i).toNat, ⟨0, [], [], Nat.zero_le _, rfl, Grown.nil _ _, hI.rowNil t_iTerm 4⟩, ?_⟩
  intro t8 _ t3 _ _ _ _ _ _ _ _ _ w'
  rintro ⟨k, Ls, css, hk, rfl, hg, hI⟩
  refine r_lss ?_
  refine condP (fun hki => ?_) (fun hki => ?_)
  · have hk' : k < ts.length := by omega
    have htl : (ts.take k).length = k := by simp; omega
    have hcl := hg.hc
    refine r_elem hI h sl_SiTerm ag_iTerm hk' (fun _ _ => RdT.length) fun cs hcs => ?_
    have hm := List.getElem_mem hk'
    have hwm := wL_mem hm
    have hlc := hcs.length
    refine r_alloc hI zo_iTerm fun b6 w' hI => ?_
    have hI := hI.perm (M := .blk b6 _ :: (rowG t3 t_iTerm 4 css :: blks Ls.flatten)) (List.perm_append_comm (l₁ := [_]))
    refine r_storeW hI 0 rfl ag_iTerm (by simpa using hlc) rfl (by simpa using hcs.one) fun w' hI => ?_
    refine r_loadW hI 0 ag_iTerm rfl (by simpa using hlc) ?_
    have hI : Inv w [] (rowG t3 t_iTerm 4 css :: blks Ls.flatten) S w' := hI.sub (List.sublist_cons_self _ _)
    refine Run.call0 fn_i_own nm_i_own hI (ih _ hm S cs hcs (by omega)) fun v' I' S' w' => ?_
    rintro ⟨rfl, cs', L, rfl, rfl, hT⟩ _ hI
    refine r_append1 hI 0 cs' mk_SiTerm (by omega) (by omega) rfl hT.length hT.one (by omega) (by omega) fun v' w' hI => ?_
    refine r_add (by omega) ?_
    refine ⟨⟨k + 1, Ls ++ [L], css ++ [cs'], hk', rfl, ?_, ?_⟩, by simp [intOf]; omega⟩
    · rw [List.take_succ_eq_append_getElem hk']
      exact hg.snoc hT hT.length
    · simp only [List.flatten_append, List.flatten_cons, List.flatten_nil, List.append_nil, blks_append]
      exact hI
  · have : k = ts.length := by omega
    subst this
    rw [List.take_length] at hg
    obtain ⟨L, hT, hI⟩ := Inv.rowTree (A := []) hI hg
    exact ⟨_, _, _, rfl, hI, Ext.refl _ _ _, rfl, _, rfl, hT⟩
theorem own_calls : ∀ (t : T) (S : Store) (cs : List Value), RdT S cs t → wT t ≤ 1048576 → Tri Tryz.prog n_i_own [.agg cs.toArray] [] S (PostT S t) := by
  refine T.ind fun k n s ks ih S cs h hw => ?_
  intro w hI
  obtain ⟨kv, rfl, h1, h2, hs, hks⟩ := RdT.iff.1 h
  simp only [T.name, T.kids, T.kind, T.n] at h1 h2 hs hks ⊢
  simp only [wT] at hw
  refine calls_i_own ?_
  unfold sh_i_own
  refine r_box hI fun b1 w' hI => ?_
  refine r_alloc hI zo_iTerm fun b2 w' hI => ?_
  refine r_fieldL hI 0 rfl fo_iTerm_3 sc_SiTerm rfl ?_
  refine Run.call0 fn_i_ownList nm_i_ownList hI (ownList_of ih hks (by omega)) fun v' I' S' w' => ?_
  rintro ⟨rfl, L, rfl, hT⟩ _ hI
  have hv : v'.cells = #[v'] ∧ v'.oneCell' = true := by obtain ⟨a, cap, rfl, _⟩ := hT; exact ⟨rfl, rfl⟩
  refine r_fieldSt hI 0 rfl fo_iTerm_3 sc_SiTerm rfl hv.1 hv.2 fun w' hI => ?_
  refine r_loadW hI 0 ag_iTerm rfl rfl ?_
  refine r_storeW hI 1 rfl ag_iTerm rfl rfl ?_ fun w' hI => ?_
  · intro u hu
    have hu' : u ∈ ([.int .i64 k, .int .i64 n, .string s, v'] : List Value) := hu
    simp at hu'
    rcases hu' with rfl | rfl | rfl | rfl <;> first | rfl | exact hv.2
  refine loadV_W hI 1 ag_iTerm rfl rfl ?_
  refine ⟨_, _, _, rfl, hI.sub (List.sublist_append_right [_, _] (blks L)), Ext.refl _ _ _, rfl, [.int .i64 k, .int .i64 n, .string s, v'], L, rfl, rfl, TrT.iff.2 ⟨v', rfl, h1, h2, hs, hT⟩⟩
theorem ownList_calls {ts : List T} {S : Store} {v : Value} (h : RdSl S 4 (RdT S) v ts) (hw : ts.length + wL ts ≤ 1048576) : Tri Tryz.prog n_i_ownList [v] [] S (PostS 4 TrT S ts) :=
  ownList_of (fun t _ => own_calls t) h hw
end

end Go.Proofs.YtaaihodhhacapaaGreat

/- impl.ownClause, impl.ownProgram. -/
namespace Go.Proofs.YtaaihodhhacapaaGreat
open Go Go.RowKit
section
variable {w : World} {K : Value → World → Prop}
attribute [local irreducible] Run
theorem r_buildClause {a b : Int} {s : ByteArray} {k v : Value} (hv : ∃ p n m, v = .slice p n m) (hk : K (.agg #[.int .i64 a, .int .i64 b, .string s, k, v]) w) : Run Tryz.prog (sBuild t_iClause [(0, .agg #[.int .i64 a, .int .i64 b, .string s, k]), (1, v)]) w K := by
  obtain ⟨p, n, m, rfl⟩ := hv
  refine Run.of (v := .agg #[.int .i64 a, .int .i64 b, .string s, k, .slice p n m]) (w' := w) ?_ hk
  unfold sBuild
  rw [Sem.run_bind, run_build w t_iClause _ #[.int .i64 a, .int .i64 b, .string s, k, .slice p n m] (by kernel_rfl), Result.andThen_ok]
  rfl
theorem r_buildHead {a b : Int} {s : ByteArray} {k : Value} (hk : K (.agg #[.int .i64 a, .int .i64 b, .string s, k, .slice none 0 0]) w) : Run Tryz.prog (sBuild t_iClause [(0, .agg #[.int .i64 a, .int .i64 b, .string s, k])]) w K := by
  refine Run.of (v := .agg #[.int .i64 a, .int .i64 b, .string s, k, .slice none 0 0]) (w' := w) ?_ hk
  unfold sBuild
  rw [Sem.run_bind, run_build w t_iClause _ #[.int .i64 a, .int .i64 b, .string s, k, .slice none 0 0] (by kernel_rfl), Result.andThen_ok]
  rfl
theorem r_buildTerm {a b : Int} {s : ByteArray} (hk : K (.agg #[.int .i64 a, .int .i64 b, .string s, .slice none 0 0]) w) : Run Tryz.prog (sBuild t_iTerm [(0, .int .i64 a), (1, .int .i64 b), (2, .string s)]) w K := by
  refine Run.of (v := .agg #[.int .i64 a, .int .i64 b, .string s, .slice none 0 0]) (w' := w) ?_ hk
  unfold sBuild
  rw [Sem.run_bind, run_build w t_iTerm _ #[.int .i64 a, .int .i64 b, .string s, .slice none 0 0] (by kernel_rfl), Result.andThen_ok]
  rfl
end
section
attribute [local irreducible] Run CondV GuardV LoadV
def occItems (B B2 B2' : Item) (M1 M2 : Heaplet) (d2 d5 d7 : Bool) : List Item := B :: (match d7 with | true => B2' | false => B2) :: ((match d2 with | true => blks M1 | false => []) ++ (match d5 with | true => blks M2 | false => []))
theorem ownClause_calls {c : C} {S : Store} {cs : List Value} (h : RdC S cs c) (hw : wC c ≤ 1048576) : Tri Tryz.prog n_i_ownClause [.agg cs.toArray] [] S (PostC S c) := by
  intro w hI
  obtain ⟨hd, ks, rfl, h1, h2⟩ := h
  have h1' := h1
  obtain ⟨kv, rfl, g1, g2, g3, g4⟩ := RdT.iff.1 h1
  unfold wC at hw
  refine calls_i_ownClause ?_
  unfold sh_i_ownClause
  refine r_box hI fun b1 w' hI => ?_
  refine r_alloc hI zo_iClause fun b2 w' hI => ?_
  have hI : Inv w [] [.blk b1 (.cells #[.int .i64 c.head.kind, .int .i64 c.head.n, .string c.head.name, kv, ks] t_iClause), .blk b2 (.cells #[.int .i64 0, .int .i64 0, .string ⟨#[]⟩, .slice none 0 0, .slice none 0 0] t_iClause)] S w' := hI
  refine ⟨fun D x9 x8 x7 x6 x5 x4 x3 w_ => (D 0 = true → x3 = .pointer (some ⟨b1, 0, none⟩)) ∧ (D 1 = true → x4 = .agg #[.int .i64 c.head.kind, .int .i64 c.head.n, .string c.head.name, kv]) ∧ (D 2 = true → True) ∧ (D 3 = true → x6 = .pointer (some ⟨b1, 4, none⟩)) ∧ (D 4 = true → x7 = ks) ∧ (D 5 = true → True) ∧ (D 6 = true → True) ∧ (D 7 = true → True) ∧ ∃ M1 M2 k1, (D 2 = true → x5 = .agg #[.int .i64 c.head.kind, .int .i64 c.head.n, .string c.head.name, k1] ∧ TrT M1 [.int .i64 c.head.kind, .int .i64 c.head.n, .string c.head.name, k1] c.head) ∧ (D 5 = true → TrSl 4 TrT M2 x8 c.body) ∧ (D 6 = true → x9 = .agg #[.int .i64 c.head.kind, .int .i64 c.head.n, .string c.head.name, k1, x8]) ∧ (D 5 = true → D 2 = true) ∧ (D 6 = true → D 5 = true) ∧ (D 7 = true → D 6 = true) ∧ Inv w [] (occItems (.blk b1 (.cells #[.int .i64 c.head.kind, .int .i64 c.head.n, .string c.head.name, kv, ks] t_iClause)) (.blk b2 (.cells #[.int .i64 0, .int .i64 0, .string ⟨#[]⟩, .slice none 0 0, .slice none 0 0] t_iClause)) (.blk b2 (.cells #[.int .i64 c.head.kind, .int .i64 c.head.n, .string c.head.name, k1, x8] t_iClause)) M1 M2 (D 2) (D 5) (D 7)) S w_, ⟨fun h => Bool.noConfusion h, fun h => Bool.noConfusion h, fun h => Bool.noConfusion h, fun h => Bool.noConfusion h, fun h => Bool.noConfusion h, fun h => Bool.noConfusion h, fun h => Bool.noConfusion h, fun h => Bool.noConfusion h, ⟨[], [], undef, fun h => Bool.noConfusion h, fun h => Bool.noConfusion h, fun h => Bool.noConfusion h, fun h => Bool.noConfusion h, fun h => Bool.noConfusion h, fun h => Bool.noConfusion h, hI.draw⟩⟩, ⟨?_, ?_, ?_, ?_, ?_, ?_, ?_, ?_, trivial⟩, ?_⟩
  · intro D hD_  x9 x8 x7 x6 x5 x4 x3 w_
    rintro ⟨h0_, h1_, h2_, h3_, h4_, h5_, h6_, h7_, ⟨M1, M2, k1, e2, e5, e6, k5, k6, k7, hI⟩⟩
    refine r_field fo_iClause_0 ?_
    exact ⟨fun _ => rfl, h1_, h2_, h3_, h4_, h5_, h6_, h7_, ⟨M1, M2, k1, e2, e5, e6, k5, k6, k7, hI⟩⟩
  · intro D hD_ d0_0 x9 x8 x7 x6 x5 x4 x3 w_
    rintro ⟨h0_, h1_, h2_, h3_, h4_, h5_, h6_, h7_, ⟨M1, M2, k1, e2, e5, e6, k5, k6, k7, hI⟩⟩
    obtain rfl := h0_ d0_0
    refine r_loadLA hI 0 [.int .i64 c.head.kind, .int .i64 c.head.n, .string c.head.name, kv] ag_iTerm rfl rfl sub4 ?_
    exact ⟨h0_, fun _ => rfl, h2_, h3_, h4_, h5_, h6_, h7_, ⟨M1, M2, k1, e2, e5, e6, k5, k6, k7, hI⟩⟩
  · intro D hD_ d1_0 x9 x8 x7 x6 x5 x4 x3 w_
    rintro ⟨h0_, h1_, h2_, h3_, h4_, h5_, h6_, h7_, ⟨M1, M2, k1, e2, e5, e6, k5, k6, k7, hI⟩⟩
    obtain rfl := h1_ d1_0
    have f5 : D 5 = false := Bool.eq_false_iff.2 fun h => by rw [k5 h] at hD_; cases hD_
    have f6 : D 6 = false := Bool.eq_false_iff.2 fun h => by rw [k6 h] at f5; cases f5
    have f7 : D 7 = false := Bool.eq_false_iff.2 fun h => by rw [k7 h] at f6; cases f6
    rw [hD_, f5, f7] at hI
    refine Run.call0 fn_i_own nm_i_own hI (own_calls c.head S _ h1' (by omega)) fun v' I' S w_ => ?_
    rintro ⟨rfl, cs1, M1, rfl, rfl, hT1⟩ _ hI
    obtain ⟨k1, rfl, _⟩ := TrT.iff.1 hT1
    have e2 : setD D 2 2 = true → Value.agg #[.int .i64 c.head.kind, .int .i64 c.head.n, .string c.head.name, k1] = Value.agg #[.int .i64 c.head.kind, .int .i64 c.head.n, .string c.head.name, k1] ∧ TrT M1 [.int .i64 c.head.kind, .int .i64 c.head.n, .string c.head.name, k1] c.head := fun _ => ⟨rfl, hT1⟩
    have e6 := fun (h : D 6 = true) => (absurd h (by rw [f6]; decide) : x9 = .agg #[.int .i64 c.head.kind, .int .i64 c.head.n, .string c.head.name, k1, x8])
    have k5 := fun (_ : setD D 2 5 = true) => (rfl : setD D 2 2 = true)
    have hI : Inv w [] (occItems (.blk b1 (.cells #[.int .i64 c.head.kind, .int .i64 c.head.n, .string c.head.name, kv, ks] t_iClause)) (.blk b2 (.cells #[.int .i64 0, .int .i64 0, .string ⟨#[]⟩, .slice none 0 0, .slice none 0 0] t_iClause)) (.blk b2 (.cells #[.int .i64 c.head.kind, .int .i64 c.head.n, .string c.head.name, k1, x8] t_iClause)) M1 M2 true (D 5) (D 7)) S w_ := by
      rw [f5, f7]
      simpa [occItems] using hI
    exact ⟨h0_, h1_, fun _ => by first | assumption | trivial, h3_, h4_, h5_, h6_, h7_, ⟨M1, M2, k1, e2, e5, e6, k5, k6, k7, hI⟩⟩
  · intro D hD_  x9 x8 x7 x6 x5 x4 x3 w_
    rintro ⟨h0_, h1_, h2_, h3_, h4_, h5_, h6_, h7_, ⟨M1, M2, k1, e2, e5, e6, k5, k6, k7, hI⟩⟩
    refine r_field fo_iClause_1 ?_
    exact ⟨h0_, h1_, h2_, fun _ => rfl, h4_, h5_, h6_, h7_, ⟨M1, M2, k1, e2, e5, e6, k5, k6, k7, hI⟩⟩
  · intro D hD_ d3_0 x9 x8 x7 x6 x5 x4 x3 w_
    rintro ⟨h0_, h1_, h2_, h3_, h4_, h5_, h6_, h7_, ⟨M1, M2, k1, e2, e5, e6, k5, k6, k7, hI⟩⟩
    obtain rfl := h3_ d3_0
    refine r_loadL hI 0 sc_SiTerm rfl rfl ?_
    exact ⟨h0_, h1_, h2_, h3_, fun _ => by first | assumption | trivial, h5_, h6_, h7_, ⟨M1, M2, k1, e2, e5, e6, k5, k6, k7, hI⟩⟩
  · intro D hD_ d4_0 d2_1 x9 x8 x7 x6 x5 x4 x3 w_
    rintro ⟨h0_, h1_, h2_, h3_, h4_, h5_, h6_, h7_, ⟨M1, M2, k1, e2, e5, e6, k5, k6, k7, hI⟩⟩
    have g4_ := h4_ d4_0
    have f6 : D 6 = false := Bool.eq_false_iff.2 fun h => by rw [k6 h] at hD_; cases hD_
    have f7 : D 7 = false := Bool.eq_false_iff.2 fun h => by rw [k7 h] at f6; cases f6
    rw [hD_, d2_1, f7] at hI
    refine Run.call0 fn_i_ownList nm_i_ownList hI (by rw [g4_]; exact ownList_calls h2 (by omega)) fun v' I' S w_ => ?_
    rintro ⟨rfl, M2, rfl, hT2⟩ _ hI
    have e5 := fun (_ : setD D 5 5 = true) => hT2
    have e6 := fun (h : D 6 = true) => (absurd h (by rw [f6]; decide) : x9 = .agg #[.int .i64 c.head.kind, .int .i64 c.head.n, .string c.head.name, k1, v'])
    have k6 := fun (_ : setD D 5 6 = true) => (rfl : setD D 5 5 = true)
    have k5 := fun (_ : setD D 5 5 = true) => d2_1
    have hI : Inv w [] (occItems (.blk b1 (.cells #[.int .i64 c.head.kind, .int .i64 c.head.n, .string c.head.name, kv, ks] t_iClause)) (.blk b2 (.cells #[.int .i64 0, .int .i64 0, .string ⟨#[]⟩, .slice none 0 0, .slice none 0 0] t_iClause)) (.blk b2 (.cells #[.int .i64 c.head.kind, .int .i64 c.head.n, .string c.head.name, k1, v'] t_iClause)) M1 M2 (D 2) true (D 7)) S w_ := by
      rw [d2_1, f7]
      simpa [occItems] using hI
    exact ⟨h0_, h1_, h2_, h3_, h4_, fun _ => by first | assumption | trivial, h6_, h7_, ⟨M1, M2, k1, e2, e5, e6, k5, k6, k7, hI⟩⟩
  · intro D hD_ d2_0 d5_1 x9 x8 x7 x6 x5 x4 x3 w_
    rintro ⟨h0_, h1_, h2_, h3_, h4_, h5_, h6_, h7_, ⟨M1, M2, k1, e2, e5, e6, k5, k6, k7, hI⟩⟩
    have g2_ := h2_ d2_0
    have g5_ := h5_ d5_1
    have q2 := (e2 d2_0).1
    subst q2
    refine r_buildClause (by obtain ⟨a8, cap8, hx8, _⟩ := e5 d5_1; exact ⟨_, _, _, hx8⟩) ?_
    have e6 : setD D 6 6 = true → Value.agg #[.int .i64 c.head.kind, .int .i64 c.head.n, .string c.head.name, k1, x8] = Value.agg #[.int .i64 c.head.kind, .int .i64 c.head.n, .string c.head.name, k1, x8] := fun _ => rfl
    have k7 := fun (_ : setD D 6 7 = true) => (rfl : setD D 6 6 = true)
    have k6 := fun (_ : setD D 6 6 = true) => d5_1
    exact ⟨h0_, h1_, h2_, h3_, h4_, h5_, fun _ => by first | assumption | trivial, h7_, ⟨M1, M2, k1, e2, e5, e6, k5, k6, k7, hI⟩⟩
  · intro D hD_ d6_0 d5_1 d0_2 d1_3 d2_4 d3_5 d4_6 d5_7 d6_8 x9 x8 x7 x6 x5 x4 x3 w_
    rintro ⟨h0_, h1_, h2_, h3_, h4_, h5_, h6_, h7_, ⟨M1, M2, k1, e2, e5, e6, k5, k6, k7, hI⟩⟩
    have g6_ := h6_ d6_0
    have q6 := e6 d6_0
    subst q6
    have q2 := (e2 d2_4).2
    have q5 := e5 d5_1
    rw [hD_, d2_4, d5_1] at hI
    refine r_storeW hI 1 rfl ag_iClause rfl rfl ?_ fun w_ hI => ?_
    · intro u hu
      have hu' : u ∈ ([.int .i64 c.head.kind, .int .i64 c.head.n, .string c.head.name, k1, x8] : List Value) := hu
      simp at hu'
      have o1 : k1.oneCell' = true := q2.one k1 (by simp)
      have o2 : x8.oneCell' = true := by obtain ⟨a, cap, rfl, _⟩ := q5; rfl
      rcases hu' with rfl | rfl | rfl | rfl | rfl <;> first | rfl | exact o1 | exact o2
    have k7 := fun (_ : setD D 7 7 = true) => d6_0
    have hI : Inv w [] (occItems (.blk b1 (.cells #[.int .i64 c.head.kind, .int .i64 c.head.n, .string c.head.name, kv, ks] t_iClause)) (.blk b2 (.cells #[.int .i64 0, .int .i64 0, .string ⟨#[]⟩, .slice none 0 0, .slice none 0 0] t_iClause)) (.blk b2 (.cells #[.int .i64 c.head.kind, .int .i64 c.head.n, .string c.head.name, k1, x8] t_iClause)) M1 M2 (D 2) (D 5) true) S w_ := by
      rw [d2_4, d5_1]
      exact hI
    exact ⟨h0_, h1_, h2_, h3_, h4_, h5_, h6_, fun _ => trivial, ⟨M1, M2, k1, e2, e5, e6, k5, k6, k7, hI⟩⟩
  intro D d7_ d6_ d5_ d4_ d3_ d2_ d1_ d0_ x9 x8 x7 x6 x5 x4 x3 w_
  rintro ⟨h0_, h1_, h2_, h3_, h4_, h5_, h6_, h7_, ⟨M1, M2, k1, e2, e5, e6, k5, k6, k7, hI⟩⟩
  have g6_ := h6_ d6_
  have g5_ := h5_ d5_
  have g4_ := h4_ d4_
  obtain rfl := h3_ d3_
  have g2_ := h2_ d2_
  obtain rfl := h1_ d1_
  obtain rfl := h0_ d0_
  clear h0_ h1_ h2_ h3_ h4_ h5_ h6_ h7_
  have q2 := (e2 d2_).2
  have q5 := e5 d5_
  rw [d2_, d5_, d7_] at hI
  refine loadV_W hI 1 ag_iClause rfl rfl ?_
  refine ⟨_, _, _, rfl, hI.sub (List.sublist_append_right [_, _] (blks M1 ++ blks M2)), Ext.refl _ _ _, rfl, _, M1 ++ M2, rfl, by rw [blks_append], _, x8, M1, M2, rfl, rfl, q2, q5⟩
end

end Go.Proofs.YtaaihodhhacapaaGreat

/- impl.ownProgram; spec's copies. -/
namespace Go.Proofs.YtaaihodhhacapaaGreat
open Go Go.RowKit
theorem RdC.one {S : Store} {cs : List Value} {c : C} (h : RdC S cs c) : ∀ u ∈ cs, u.oneCell' = true := by
  obtain ⟨hd, ks, rfl, h1, a, cap, rfl, _⟩ := h
  intro u hu
  rcases List.mem_append.1 hu with hu | hu
  · exact h1.one u hu
  · simp at hu; subst hu; rfl
section
attribute [local irreducible] Run CondV GuardV LoadV
/- a row's value is a slice -/
theorem Inv.rowSlice {w0 w : World} {X : List Nat} {L : List Item} {S : Store} {v : Value} {e : TypeId} {k n : Nat} {xs : List Value} (h : Inv w0 X L S w) (i : Nat) (hi : L[i]? = some (.row v e k n xs)) : ∃ a m c, v = .slice a m c := by
  have hm : w.ownsRow 0 e k v n xs := h.its (.row v e k n xs) (List.mem_of_getElem? hi)
  rcases hm.2 with ⟨rfl, _⟩ | ⟨g, cap, cur, rfl, _⟩
  · exact ⟨_, _, _, rfl⟩
  · exact ⟨_, _, _, rfl⟩
def cpItems (B1 B2 B3 B3' r r' : Item) (rest : List Item) (M : Heaplet) (B27 : Item) (d7 d8 d9 d11 : Bool) : List Item :=
  B1 :: B2 :: (match d11 with | true => B3' | false => B3) :: (match d9 with | true => r' | false => r) :: (rest ++ ((match d7 with | true => blks M | false => []) ++ (match d8 with | true => [B27] | false => [])))

theorem l1Copy_calls : ∀ (t : T) (S : Store) (cs : List Value), RdT S cs t → wT t ≤ 1048576 → Tri Tryz.prog n_s_l1Copy [.agg cs.toArray] [] S (PostT S t) := by
  refine T.ind fun k n s ks ih S cs h hw => ?_
  intro w hI
  obtain ⟨kv, rfl, h1, h2, hs, hks⟩ := RdT.iff.1 h
  simp only [T.name, T.kids, T.kind, T.n] at h1 h2 hs hks ⊢
  simp only [wT] at hw
  refine calls_s_l1Copy ?_
  unfold sh_s_l1Copy
  refine r_box hI fun b1 w' hI => ?_
  refine r_alloc hI zo_iTerm fun b2 w' hI => ?_
  refine r_fieldL hI 0 rfl fo_iTerm_0 sc_int rfl ?_
  refine r_fieldL hI 0 rfl fo_iTerm_1 sc_int rfl ?_
  refine r_fieldL hI 0 rfl fo_iTerm_2 sc_string rfl ?_
  refine r_buildTerm ?_
  refine r_alloc hI zo_iTerm fun b3 w' hI => ?_
  refine r_storeW hI 2 rfl ag_iTerm rfl rfl (by simp [Value.oneCell']) fun w' hI => ?_
  have hI := hI.rowNil t_iTerm 4
  refine ⟨fun i w' => ∃ (j : Nat) (kvc : Value) (Ls : List Heaplet) (css : List (List Value)), j ≤ ks.length ∧ i = .int .i64 j ∧ Grown 4 TrT Ls css (ks.take j) ∧
      Inv w [] (.blk b1 (.cells #[.int .i64 k, .int .i64 n, .string s, kv] t_iTerm) :: .blk b2 (.cells #[.int .i64 0, .int .i64 0, .string ⟨#[]⟩, .slice none 0 0] t_iTerm) :: .blk b3 (.cells #[.int .i64 k, .int .i64 n, .string s, kvc] t_iTerm) :: rowG kvc t_iTerm 4 css :: blks Ls.flatten) S w',
    fun i _ => ks.length - (intOf i).toNat, ⟨0, _, [], [], Nat.zero_le _, rfl, Grown.nil _ _, hI⟩, ?_⟩
  intro t4 _ _ _ _ _ _ _ _ _ _ _ _ _ _ _ _ _ _ w'
  rintro ⟨j, kvc, Ls, css, hj, rfl, hg, hI⟩
  refine r_fieldL hI 0 rfl fo_iTerm_3 sc_SiTerm rfl ?_
  refine r_lenSl hks sl_SiTerm ?_
  refine r_lss ?_
  refine condP (fun hji => ?_) (fun hji => ?_)
  · have hj' : j < ks.length := by omega
    have hjl : (ks.take j).length = j := by simp; omega
    have hcl := hg.hc
    have hm := List.getElem_mem hj'
    have hwm := wL_mem hm
    obtain ⟨b, o, cap, c, E, fz, rfl, hS, hR⟩ := hks.at_ hj'
    refine ⟨fun D x29 x28 x27 x26 x25 x24 x23 x22 x21 x20 x19 w_ => (D 0 = true → x19 = .pointer (some ⟨b3, 3, none⟩)) ∧ (D 1 = true → x20 = kvc) ∧ (D 2 = true → x21 = .pointer (some ⟨b1, 3, none⟩)) ∧ (D 3 = true → x22 = .slice (some ⟨b, o, none⟩) (ks).length cap) ∧ (D 4 = true → x23 = .int .i64 j) ∧ (D 5 = true → x24 = .pointer (some ⟨b, o + j * 4, none⟩)) ∧ (D 6 = true → x25 = .agg (cellsAt c (o + j * 4) 4).toArray) ∧ (D 7 = true → True) ∧ (D 8 = true → True) ∧ (D 9 = true → True) ∧ (D 10 = true → x29 = .pointer (some ⟨b3, 3, none⟩)) ∧ (D 11 = true → True) ∧ ∃ M cs7 b8, (D 7 = true → x26 = .agg cs7.toArray ∧ TrT M cs7 (ks)[j]) ∧ (D 8 = true → x27 = .slice (some ⟨b8, 0, none⟩) 1 1) ∧ (D 8 = true → D 7 = true) ∧ (D 9 = true → D 8 = true) ∧ (D 11 = true → D 9 = true) ∧ (D 11 = true → D 1 = true) ∧ Inv w [] (cpItems (.blk b1 (.cells #[.int .i64 k, .int .i64 n, .string s, .slice (some ⟨b, o, none⟩) ks.length cap] t_iTerm)) (.blk b2 (.cells #[.int .i64 0, .int .i64 0, .string ⟨#[]⟩, .slice none 0 0] t_iTerm)) (.blk b3 (.cells #[.int .i64 k, .int .i64 n, .string s, kvc] t_iTerm)) (.blk b3 (.cells #[.int .i64 k, .int .i64 n, .string s, x28] t_iTerm)) (rowG kvc t_iTerm 4 css) (rowG x28 t_iTerm 4 (css ++ [cs7])) (blks Ls.flatten) M (.blk b8 (.cells cs7.toArray t_iTerm)) (D 7) (D 8) (D 9) (D 11)) S w_, ⟨fun h => Bool.noConfusion h, fun h => Bool.noConfusion h, fun h => Bool.noConfusion h, fun h => Bool.noConfusion h, fun h => Bool.noConfusion h, fun h => Bool.noConfusion h, fun h => Bool.noConfusion h, fun h => Bool.noConfusion h, fun h => Bool.noConfusion h, fun h => Bool.noConfusion h, fun h => Bool.noConfusion h, fun h => Bool.noConfusion h, ⟨[], [], 0, fun h => Bool.noConfusion h, fun h => Bool.noConfusion h, fun h => Bool.noConfusion h, fun h => Bool.noConfusion h, fun h => Bool.noConfusion h, fun h => Bool.noConfusion h, by simpa [cpItems, blks] using hI.draw⟩⟩, ⟨?_, ?_, ?_, ?_, ?_, ?_, ?_, ?_, ?_, ?_, ?_, ?_, trivial⟩, ?_⟩
    · intro D hD_  x29 x28 x27 x26 x25 x24 x23 x22 x21 x20 x19 w_
      rintro ⟨h0_, h1_, h2_, h3_, h4_, h5_, h6_, h7_, h8_, h9_, h10_, h11_, ⟨M, cs7, b8, e7, e8, k8, k9, k11, k1, hI⟩⟩
      refine r_field fo_iTerm_3 ?_
      exact ⟨fun _ => rfl, h1_, h2_, h3_, h4_, h5_, h6_, h7_, h8_, h9_, h10_, h11_, ⟨M, cs7, b8, e7, e8, k8, k9, k11, k1, hI⟩⟩
    · intro D hD_ d0_0 x29 x28 x27 x26 x25 x24 x23 x22 x21 x20 x19 w_
      rintro ⟨h0_, h1_, h2_, h3_, h4_, h5_, h6_, h7_, h8_, h9_, h10_, h11_, ⟨M, cs7, b8, e7, e8, k8, k9, k11, k1, hI⟩⟩
      obtain rfl := h0_ d0_0
      have f11 : D 11 = false := Bool.eq_false_iff.2 fun h => by rw [k1 h] at hD_; cases hD_
      refine r_loadL (b := b3) hI 2 (c := (#[.int .i64 k, .int .i64 n, .string s, kvc])) sc_SiTerm (by rw [f11]; rfl) rfl ?_
      have k1 := fun (_ : setD D 1 11 = true) => (rfl : setD D 1 1 = true)
      exact ⟨h0_, fun _ => rfl, h2_, h3_, h4_, h5_, h6_, h7_, h8_, h9_, h10_, h11_, ⟨M, cs7, b8, e7, e8, k8, k9, k11, k1, hI⟩⟩
    · intro D hD_  x29 x28 x27 x26 x25 x24 x23 x22 x21 x20 x19 w_
      rintro ⟨h0_, h1_, h2_, h3_, h4_, h5_, h6_, h7_, h8_, h9_, h10_, h11_, ⟨M, cs7, b8, e7, e8, k8, k9, k11, k1, hI⟩⟩
      refine r_field fo_iTerm_3 ?_
      exact ⟨h0_, h1_, fun _ => rfl, h3_, h4_, h5_, h6_, h7_, h8_, h9_, h10_, h11_, ⟨M, cs7, b8, e7, e8, k8, k9, k11, k1, hI⟩⟩
    · intro D hD_ d2_0 x29 x28 x27 x26 x25 x24 x23 x22 x21 x20 x19 w_
      rintro ⟨h0_, h1_, h2_, h3_, h4_, h5_, h6_, h7_, h8_, h9_, h10_, h11_, ⟨M, cs7, b8, e7, e8, k8, k9, k11, k1, hI⟩⟩
      obtain rfl := h2_ d2_0
      refine r_loadL hI 0 sc_SiTerm rfl rfl ?_
      exact ⟨h0_, h1_, h2_, fun _ => rfl, h4_, h5_, h6_, h7_, h8_, h9_, h10_, h11_, ⟨M, cs7, b8, e7, e8, k8, k9, k11, k1, hI⟩⟩
    · intro D hD_  x29 x28 x27 x26 x25 x24 x23 x22 x21 x20 x19 w_
      rintro ⟨h0_, h1_, h2_, h3_, h4_, h5_, h6_, h7_, h8_, h9_, h10_, h11_, ⟨M, cs7, b8, e7, e8, k8, k9, k11, k1, hI⟩⟩
      exact ⟨h0_, h1_, h2_, h3_, fun _ => rfl, h5_, h6_, h7_, h8_, h9_, h10_, h11_, ⟨M, cs7, b8, e7, e8, k8, k9, k11, k1, hI⟩⟩
    · intro D hD_ d3_0 d4_1 x29 x28 x27 x26 x25 x24 x23 x22 x21 x20 x19 w_
      rintro ⟨h0_, h1_, h2_, h3_, h4_, h5_, h6_, h7_, h8_, h9_, h10_, h11_, ⟨M, cs7, b8, e7, e8, k8, k9, k11, k1, hI⟩⟩
      obtain rfl := h3_ d3_0
      obtain rfl := h4_ d4_1
      refine r_indexAddr sl_SiTerm hj' ?_
      exact ⟨h0_, h1_, h2_, h3_, h4_, fun _ => rfl, h6_, h7_, h8_, h9_, h10_, h11_, ⟨M, cs7, b8, e7, e8, k8, k9, k11, k1, hI⟩⟩
    · intro D hD_ d5_0 x29 x28 x27 x26 x25 x24 x23 x22 x21 x20 x19 w_
      rintro ⟨h0_, h1_, h2_, h3_, h4_, h5_, h6_, h7_, h8_, h9_, h10_, h11_, ⟨M, cs7, b8, e7, e8, k8, k9, k11, k1, hI⟩⟩
      obtain rfl := h5_ d5_0
      refine r_loadA ag_iTerm hR.length (fun j v hj => by rw [hI.cellS hS]; exact cellsAt_get rfl j v hj) ?_
      exact ⟨h0_, h1_, h2_, h3_, h4_, h5_, fun _ => rfl, h7_, h8_, h9_, h10_, h11_, ⟨M, cs7, b8, e7, e8, k8, k9, k11, k1, hI⟩⟩
    · intro D hD_ d6_0 x29 x28 x27 x26 x25 x24 x23 x22 x21 x20 x19 w_
      rintro ⟨h0_, h1_, h2_, h3_, h4_, h5_, h6_, h7_, h8_, h9_, h10_, h11_, ⟨M, cs7, b8, e7, e8, k8, k9, k11, k1, hI⟩⟩
      obtain rfl := h6_ d6_0
      have f8 : D 8 = false := Bool.eq_false_iff.2 fun h => by rw [k8 h] at hD_; cases hD_
      have f9 : D 9 = false := Bool.eq_false_iff.2 fun h => by rw [k9 h] at f8; cases f8
      have f11 : D 11 = false := Bool.eq_false_iff.2 fun h => by rw [k11 h] at f9; cases f9
      rw [hD_, f8, f9, f11] at hI
      refine Run.call0 fn_s_l1Copy nm_s_l1Copy hI (ih _ (List.getElem_mem hj') S _ hR (by omega)) fun v' I' S w_ => ?_
      rintro ⟨rfl, cs7, M, rfl, rfl, hT⟩ _ hI
      have e7 : setD D 7 7 = true → Value.agg cs7.toArray = Value.agg cs7.toArray ∧ TrT M cs7 (ks)[j] := fun _ => ⟨rfl, hT⟩
      have k8 := fun (_ : setD D 7 8 = true) => (rfl : setD D 7 7 = true)
      have hI : Inv w [] (cpItems (.blk b1 (.cells #[.int .i64 k, .int .i64 n, .string s, .slice (some ⟨b, o, none⟩) ks.length cap] t_iTerm)) (.blk b2 (.cells #[.int .i64 0, .int .i64 0, .string ⟨#[]⟩, .slice none 0 0] t_iTerm)) (.blk b3 (.cells #[.int .i64 k, .int .i64 n, .string s, kvc] t_iTerm)) (.blk b3 (.cells #[.int .i64 k, .int .i64 n, .string s, x28] t_iTerm)) (rowG kvc t_iTerm 4 css) (rowG x28 t_iTerm 4 (css ++ [cs7])) (blks Ls.flatten) M (.blk b8 (.cells cs7.toArray t_iTerm)) true (D 8) (D 9) (D 11)) S w_ := by
        rw [f8, f9, f11]
        simpa [cpItems] using hI
      exact ⟨h0_, h1_, h2_, h3_, h4_, h5_, h6_, fun _ => by first | assumption | trivial, h8_, h9_, h10_, h11_, ⟨M, cs7, b8, e7, e8, k8, k9, k11, k1, hI⟩⟩
    · intro D hD_ d7_0 x29 x28 x27 x26 x25 x24 x23 x22 x21 x20 x19 w_
      rintro ⟨h0_, h1_, h2_, h3_, h4_, h5_, h6_, h7_, h8_, h9_, h10_, h11_, ⟨M, cs7, b8, e7, e8, k8, k9, k11, k1, hI⟩⟩
      have g7_ := h7_ d7_0
      have f9 : D 9 = false := Bool.eq_false_iff.2 fun h => by rw [k9 h] at hD_; cases hD_
      have f11 : D 11 = false := Bool.eq_false_iff.2 fun h => by rw [k11 h] at f9; cases f9
      obtain ⟨q7, hT⟩ := e7 d7_0
      subst q7
      rw [d7_0, hD_, f9, f11] at hI
      refine r_slice1 hI mk_SiTerm (by simp [Value.cells, hT.length]) (by omega) (by omega) fun b8 w_ hI => ?_
      have e7 : setD D 8 7 = true → Value.agg cs7.toArray = Value.agg cs7.toArray ∧ TrT M cs7 (ks)[j] := fun _ => ⟨rfl, hT⟩
      have e8 := fun (_ : setD D 8 8 = true) => (rfl : Value.slice (some ⟨b8, 0, none⟩) 1 1 = _)
      have k8 := fun (_ : setD D 8 8 = true) => d7_0
      have k9 := fun (_ : setD D 8 9 = true) => (rfl : setD D 8 8 = true)
      have hI : Inv w [] (cpItems (.blk b1 (.cells #[.int .i64 k, .int .i64 n, .string s, .slice (some ⟨b, o, none⟩) ks.length cap] t_iTerm)) (.blk b2 (.cells #[.int .i64 0, .int .i64 0, .string ⟨#[]⟩, .slice none 0 0] t_iTerm)) (.blk b3 (.cells #[.int .i64 k, .int .i64 n, .string s, kvc] t_iTerm)) (.blk b3 (.cells #[.int .i64 k, .int .i64 n, .string s, x28] t_iTerm)) (rowG kvc t_iTerm 4 css) (rowG x28 t_iTerm 4 (css ++ [cs7])) (blks Ls.flatten) M (.blk b8 (.cells cs7.toArray t_iTerm)) (D 7) true (D 9) (D 11)) S w_ := by
        rw [d7_0, f9, f11]
        simpa [cpItems, Value.cells] using hI
      exact ⟨h0_, h1_, h2_, h3_, h4_, h5_, h6_, h7_, fun _ => by first | assumption | trivial, h9_, h10_, h11_, ⟨M, cs7, b8, e7, e8, k8, k9, k11, k1, hI⟩⟩
    · intro D hD_ d1_0 d8_1 d7_2 x29 x28 x27 x26 x25 x24 x23 x22 x21 x20 x19 w_
      rintro ⟨h0_, h1_, h2_, h3_, h4_, h5_, h6_, h7_, h8_, h9_, h10_, h11_, ⟨M, cs7, b8, e7, e8, k8, k9, k11, k1, hI⟩⟩
      obtain rfl := h1_ d1_0
      have g8_ := h8_ d8_1
      have f11 : D 11 = false := Bool.eq_false_iff.2 fun h => by rw [k11 h] at hD_; cases hD_
      have q8 := e8 d8_1
      subst q8
      obtain ⟨_, hT⟩ := e7 d7_2
      rw [d7_2, d8_1, hD_, f11] at hI
      have hblk : ((cpItems (.blk b1 (.cells #[.int .i64 k, .int .i64 n, .string s, .slice (some ⟨b, o, none⟩) ks.length cap] t_iTerm)) (.blk b2 (.cells #[.int .i64 0, .int .i64 0, .string ⟨#[]⟩, .slice none 0 0] t_iTerm)) (.blk b3 (.cells #[.int .i64 k, .int .i64 n, .string s, x20] t_iTerm)) (.blk b3 (.cells #[.int .i64 k, .int .i64 n, .string s, x28] t_iTerm)) (rowG x20 t_iTerm 4 css) (rowG x28 t_iTerm 4 (css ++ [cs7])) (blks Ls.flatten) M (.blk b8 (.cells cs7.toArray t_iTerm)) true true false false))[4 + (blks Ls.flatten).length + (blks M).length]? = some (.blk b8 (.cells cs7.toArray t_iTerm)) := by
        have e4 : 4 + (blks Ls.flatten).length + (blks M).length = ((blks Ls.flatten).length + (blks M).length) + 1 + 1 + 1 + 1 := by omega
        rw [e4]
        simp only [cpItems, List.getElem?_cons_succ]
        rw [List.getElem?_append_right (by omega), Nat.add_sub_cancel_left, List.getElem?_append_right (Nat.le_refl _), Nat.sub_self]; rfl
      refine r_append hI 3 cs7 mk_SiTerm (by omega) rfl (by rw [hT.length]) (m := 1) (o := 0) ?_ hT.one (by omega) (by omega) fun v' w_ hI => ?_
      · intro i u hi
        rw [hI.cellL hblk, Nat.zero_add]
        simpa using hi
      rw [rowG_snoc] at hI
      have k9 := fun (_ : setD D 9 9 = true) => d8_1
      have k11 := fun (_ : setD D 9 11 = true) => (rfl : setD D 9 9 = true)
      have hI : Inv w [] (cpItems (.blk b1 (.cells #[.int .i64 k, .int .i64 n, .string s, .slice (some ⟨b, o, none⟩) ks.length cap] t_iTerm)) (.blk b2 (.cells #[.int .i64 0, .int .i64 0, .string ⟨#[]⟩, .slice none 0 0] t_iTerm)) (.blk b3 (.cells #[.int .i64 k, .int .i64 n, .string s, x20] t_iTerm)) (.blk b3 (.cells #[.int .i64 k, .int .i64 n, .string s, v'] t_iTerm)) (rowG x20 t_iTerm 4 css) (rowG v' t_iTerm 4 (css ++ [cs7])) (blks Ls.flatten) M (.blk b8 (.cells cs7.toArray t_iTerm)) (D 7) (D 8) true (D 11)) S w_ := by
        rw [d7_2, d8_1, f11]
        exact hI
      exact ⟨h0_, h1_, h2_, h3_, h4_, h5_, h6_, h7_, h8_, fun _ => by first | assumption | trivial, h10_, h11_, ⟨M, cs7, b8, e7, e8, k8, k9, k11, k1, hI⟩⟩
    · intro D hD_ d0_0 d1_1 d2_2 d3_3 d4_4 d5_5 d6_6 d7_7 d8_8 d9_9 x29 x28 x27 x26 x25 x24 x23 x22 x21 x20 x19 w_
      rintro ⟨h0_, h1_, h2_, h3_, h4_, h5_, h6_, h7_, h8_, h9_, h10_, h11_, ⟨M, cs7, b8, e7, e8, k8, k9, k11, k1, hI⟩⟩
      refine r_field fo_iTerm_3 ?_
      exact ⟨h0_, h1_, h2_, h3_, h4_, h5_, h6_, h7_, h8_, h9_, fun _ => rfl, h11_, ⟨M, cs7, b8, e7, e8, k8, k9, k11, k1, hI⟩⟩
    · intro D hD_ d10_0 d9_1 d9_2 d0_3 d1_4 d2_5 d3_6 d4_7 d5_8 d6_9 d7_10 d8_11 d9_12 x29 x28 x27 x26 x25 x24 x23 x22 x21 x20 x19 w_
      rintro ⟨h0_, h1_, h2_, h3_, h4_, h5_, h6_, h7_, h8_, h9_, h10_, h11_, ⟨M, cs7, b8, e7, e8, k8, k9, k11, k1, hI⟩⟩
      obtain rfl := h10_ d10_0
      have g9_ := h9_ d9_1
      rw [d7_10, d8_11, d9_1, hD_] at hI
      obtain ⟨va, vn, vc, hv9⟩ := Inv.rowSlice hI 3 rfl
      refine r_store hI 2 (n := 1) (by rw [hv9]; rfl) (by decide +kernel) rfl (by simp) (by rw [hv9]; simp [Value.cells, Value.oneCell']) fun w_ hI => ?_
      have hcl9 : Value.cells x28 = #[x28] := by rw [hv9]; rfl
      rw [hcl9] at hI
      have k1 := fun (_ : setD D 11 11 = true) => d1_4
      have k11 := fun (_ : setD D 11 11 = true) => d9_1
      have hI : Inv w [] (cpItems (.blk b1 (.cells #[.int .i64 k, .int .i64 n, .string s, .slice (some ⟨b, o, none⟩) ks.length cap] t_iTerm)) (.blk b2 (.cells #[.int .i64 0, .int .i64 0, .string ⟨#[]⟩, .slice none 0 0] t_iTerm)) (.blk b3 (.cells #[.int .i64 k, .int .i64 n, .string s, kvc] t_iTerm)) (.blk b3 (.cells #[.int .i64 k, .int .i64 n, .string s, x28] t_iTerm)) (rowG kvc t_iTerm 4 css) (rowG x28 t_iTerm 4 (css ++ [cs7])) (blks Ls.flatten) M (.blk b8 (.cells cs7.toArray t_iTerm)) (D 7) (D 8) (D 9) true) S w_ := by
        rw [d7_10, d8_11, d9_1]
        exact hI
      exact ⟨h0_, h1_, h2_, h3_, h4_, h5_, h6_, h7_, h8_, h9_, h10_, fun _ => trivial, ⟨M, cs7, b8, e7, e8, k8, k9, k11, k1, hI⟩⟩
    intro D d11_ d10_ d9_ d8_ d7_ d6_ d5_ d4_ d3_ d2_ d1_ d0_ x29 x28 x27 x26 x25 x24 x23 x22 x21 x20 x19 w_
    rintro ⟨h0_, h1_, h2_, h3_, h4_, h5_, h6_, h7_, h8_, h9_, h10_, h11_, ⟨M, cs7, b8, e7, e8, k8, k9, k11, k1, hI⟩⟩
    obtain rfl := h10_ d10_
    have g9_ := h9_ d9_
    have g8_ := h8_ d8_
    have g7_ := h7_ d7_
    obtain rfl := h6_ d6_
    obtain rfl := h5_ d5_
    obtain rfl := h4_ d4_
    obtain rfl := h3_ d3_
    obtain rfl := h2_ d2_
    obtain rfl := h1_ d1_
    obtain rfl := h0_ d0_
    clear h0_ h1_ h2_ h3_ h4_ h5_ h6_ h7_ h8_ h9_ h10_ h11_
    obtain ⟨_, hT⟩ := e7 d7_
    rw [d7_, d8_, d9_, d11_] at hI
    refine r_add (by omega) ?_
    refine ⟨⟨j + 1, x28, Ls ++ [M], css ++ [cs7], hj', rfl, ?_, ?_⟩, by simp [intOf]; omega⟩
    · rw [List.take_succ_eq_append_getElem hj']
      exact hg.snoc hT hT.length
    · simp only [List.flatten_append, List.flatten_cons, List.flatten_nil, List.append_nil, blks_append]
      refine hI.sub ?_
      simp only [cpItems]
      rw [← List.append_assoc]
      exact (((List.sublist_append_left _ _).cons_cons _).cons_cons _).cons_cons _ |>.cons_cons _
  · have : j = ks.length := by omega
    subst this
    rw [List.take_length] at hg
    obtain ⟨va, vn, vc, hvk⟩ := hI.rowSlice 3 rfl
    have hv1 : kvc.oneCell' = true := by rw [hvk]; rfl
    refine r_loadW hI 2 ag_iTerm rfl rfl ?_
    refine r_storeW hI 1 rfl ag_iTerm rfl rfl ?_ fun w' hI => ?_
    · intro u hu
      have hu' : u ∈ ([.int .i64 k, .int .i64 n, .string s, kvc] : List Value) := hu
      simp at hu'
      rcases hu' with rfl | rfl | rfl | rfl <;> first | rfl | exact hv1
    refine loadV_W hI 1 ag_iTerm rfl rfl ?_
    have hI : Inv w [] ([] ++ (rowG kvc t_iTerm 4 css :: blks Ls.flatten)) S w' := hI.sub (List.sublist_append_right [_, _, _] _)
    obtain ⟨L, hT, hI⟩ := Inv.rowTree hI hg
    exact ⟨_, _, _, rfl, hI, Ext.refl _ _ _, rfl, _, L, rfl, rfl, TrT.iff.2 ⟨kvc, rfl, h1, h2, hs, hT⟩⟩
end

end Go.Proofs.YtaaihodhhacapaaGreat

/- spec.l4Copy, spec.l14Copy: clauses and programs copied. -/
namespace Go.Proofs.YtaaihodhhacapaaGreat
open Go Go.RowKit
section
attribute [local irreducible] Run CondV GuardV LoadV
theorem l4Copy_calls {c0 : C} {S : Store} {cs : List Value} (h : RdC S cs c0) (hw : wC c0 ≤ 1048576) : Tri Tryz.prog n_s_l4Copy [.agg cs.toArray] [] S (PostC S c0) := by
  intro w hI
  obtain ⟨hd, ks, rfl, h1, h2⟩ := h
  have h1' := h1
  obtain ⟨kv, rfl, g1, g2, g3, g4⟩ := RdT.iff.1 h1
  unfold wC at hw
  refine calls_s_l4Copy ?_
  unfold sh_s_l4Copy
  refine r_box hI fun b1 w' hI => ?_
  refine r_alloc hI zo_iClause fun b2 w' hI => ?_
  refine r_field fo_iClause_0 ?_
  refine r_loadLA hI 0 [.int .i64 c0.head.kind, .int .i64 c0.head.n, .string c0.head.name, kv] ag_iTerm rfl rfl sub4 ?_
  refine Run.call0 fn_s_l1Copy nm_s_l1Copy hI (l1Copy_calls _ S _ h1' (by omega)) fun v' I' S w' => ?_
  rintro ⟨rfl, cs1, N, rfl, rfl, hT1⟩ _ hI
  obtain ⟨kh, rfl, _⟩ := TrT.iff.1 hT1
  refine r_buildHead ?_
  refine r_alloc hI zo_iClause fun b3 w' hI => ?_
  have hI := hI.perm (M := .blk b1 _ :: .blk b2 _ :: .blk b3 _ :: blks N) (((List.perm_append_comm (l₁ := [_])).cons _).cons _)
  refine r_storeW hI 2 rfl ag_iClause rfl rfl ?_ fun w' hI => ?_
  · intro u hu
    have hu' : u ∈ ([.int .i64 c0.head.kind, .int .i64 c0.head.n, .string c0.head.name, kh, .slice none 0 0] : List Value) := hu
    simp at hu'
    have o1 : kh.oneCell' = true := hT1.one kh (by simp)
    rcases hu' with rfl | rfl | rfl | rfl | rfl <;> first | rfl | exact o1
  have hI := hI.rowNil t_iTerm 4
  have hI := hI.perm (M := .blk b1 (.cells #[.int .i64 c0.head.kind, .int .i64 c0.head.n, .string c0.head.name, kv, ks] t_iClause) :: .blk b2 (.cells #[.int .i64 0, .int .i64 0, .string ⟨#[]⟩, .slice none 0 0, .slice none 0 0] t_iClause) :: .blk b3 (.cells #[.int .i64 c0.head.kind, .int .i64 c0.head.n, .string c0.head.name, kh, .slice none 0 0] t_iClause) :: rowG (.slice none 0 0) t_iTerm 4 [] :: blks N) ((((List.perm_append_comm (l₁ := [_])).cons _).cons _).cons _)
  refine ⟨fun i w' => ∃ (j : Nat) (kvc : Value) (Ls : List Heaplet) (css : List (List Value)), j ≤ c0.body.length ∧ i = .int .i64 j ∧ Grown 4 TrT Ls css (c0.body.take j) ∧
      Inv w [] (.blk b1 (.cells #[.int .i64 c0.head.kind, .int .i64 c0.head.n, .string c0.head.name, kv, ks] t_iClause) :: .blk b2 (.cells #[.int .i64 0, .int .i64 0, .string ⟨#[]⟩, .slice none 0 0, .slice none 0 0] t_iClause) :: .blk b3 (.cells #[.int .i64 c0.head.kind, .int .i64 c0.head.n, .string c0.head.name, kh, kvc] t_iClause) :: rowG kvc t_iTerm 4 css :: blks (N :: Ls).flatten) S w',
    fun i _ => c0.body.length - (intOf i).toNat, ⟨0, _, [], [], Nat.zero_le _, rfl, Grown.nil _ _, by simp only [List.flatten_cons, List.flatten_nil, List.append_nil]; exact hI⟩, ?_⟩
  intro t4 _ _ _ _ _ _ _ _ _ _ _ _ _ _ _ _ _ _ w'
  rintro ⟨j, kvc, Ls, css, hj, rfl, hg, hI⟩
  refine r_fieldL hI 0 rfl fo_iClause_1 sc_SiTerm rfl ?_
  refine r_lenSl h2 sl_SiTerm ?_
  refine r_lss ?_
  refine condP (fun hji => ?_) (fun hji => ?_)
  · have hj' : j < c0.body.length := by omega
    have hjl : (c0.body.take j).length = j := by simp; omega
    have hcl := hg.hc
    have hm := List.getElem_mem hj'
    have hwm := wL_mem hm
    obtain ⟨b, o, cap, c, E, fz, rfl, hS, hR⟩ := h2.at_ hj'
    refine ⟨fun D x26 x25 x24 x23 x22 x21 x20 x19 x18 x17 x16 w_ => (D 0 = true → x16 = .pointer (some ⟨b3, 4, none⟩)) ∧ (D 1 = true → x17 = kvc) ∧ (D 2 = true → x18 = .pointer (some ⟨b1, 4, none⟩)) ∧ (D 3 = true → x19 = .slice (some ⟨b, o, none⟩) (c0.body).length cap) ∧ (D 4 = true → x20 = .int .i64 j) ∧ (D 5 = true → x21 = .pointer (some ⟨b, o + j * 4, none⟩)) ∧ (D 6 = true → x22 = .agg (cellsAt c (o + j * 4) 4).toArray) ∧ (D 7 = true → True) ∧ (D 8 = true → True) ∧ (D 9 = true → True) ∧ (D 10 = true → x26 = .pointer (some ⟨b3, 4, none⟩)) ∧ (D 11 = true → True) ∧ ∃ M cs7 b8, (D 7 = true → x23 = .agg cs7.toArray ∧ TrT M cs7 (c0.body)[j]) ∧ (D 8 = true → x24 = .slice (some ⟨b8, 0, none⟩) 1 1) ∧ (D 8 = true → D 7 = true) ∧ (D 9 = true → D 8 = true) ∧ (D 11 = true → D 9 = true) ∧ (D 11 = true → D 1 = true) ∧ Inv w [] (cpItems (.blk b1 (.cells #[.int .i64 c0.head.kind, .int .i64 c0.head.n, .string c0.head.name, kv, .slice (some ⟨b, o, none⟩) c0.body.length cap] t_iClause)) (.blk b2 (.cells #[.int .i64 0, .int .i64 0, .string ⟨#[]⟩, .slice none 0 0, .slice none 0 0] t_iClause)) (.blk b3 (.cells #[.int .i64 c0.head.kind, .int .i64 c0.head.n, .string c0.head.name, kh, kvc] t_iClause)) (.blk b3 (.cells #[.int .i64 c0.head.kind, .int .i64 c0.head.n, .string c0.head.name, kh, x25] t_iClause)) (rowG kvc t_iTerm 4 css) (rowG x25 t_iTerm 4 (css ++ [cs7])) (blks (N :: Ls).flatten) M (.blk b8 (.cells cs7.toArray t_iTerm)) (D 7) (D 8) (D 9) (D 11)) S w_, ⟨fun h => Bool.noConfusion h, fun h => Bool.noConfusion h, fun h => Bool.noConfusion h, fun h => Bool.noConfusion h, fun h => Bool.noConfusion h, fun h => Bool.noConfusion h, fun h => Bool.noConfusion h, fun h => Bool.noConfusion h, fun h => Bool.noConfusion h, fun h => Bool.noConfusion h, fun h => Bool.noConfusion h, fun h => Bool.noConfusion h, ⟨[], [], 0, fun h => Bool.noConfusion h, fun h => Bool.noConfusion h, fun h => Bool.noConfusion h, fun h => Bool.noConfusion h, fun h => Bool.noConfusion h, fun h => Bool.noConfusion h, by simpa [cpItems, blks] using hI.draw⟩⟩, ⟨?_, ?_, ?_, ?_, ?_, ?_, ?_, ?_, ?_, ?_, ?_, ?_, trivial⟩, ?_⟩
    · intro D hD_  x26 x25 x24 x23 x22 x21 x20 x19 x18 x17 x16 w_
      rintro ⟨h0_, h1_, h2_, h3_, h4_, h5_, h6_, h7_, h8_, h9_, h10_, h11_, ⟨M, cs7, b8, e7, e8, k8, k9, k11, k1, hI⟩⟩
      refine r_field fo_iClause_1 ?_
      exact ⟨fun _ => rfl, h1_, h2_, h3_, h4_, h5_, h6_, h7_, h8_, h9_, h10_, h11_, ⟨M, cs7, b8, e7, e8, k8, k9, k11, k1, hI⟩⟩
    · intro D hD_ d0_0 x26 x25 x24 x23 x22 x21 x20 x19 x18 x17 x16 w_
      rintro ⟨h0_, h1_, h2_, h3_, h4_, h5_, h6_, h7_, h8_, h9_, h10_, h11_, ⟨M, cs7, b8, e7, e8, k8, k9, k11, k1, hI⟩⟩
      obtain rfl := h0_ d0_0
      have f11 : D 11 = false := Bool.eq_false_iff.2 fun h => by rw [k1 h] at hD_; cases hD_
      refine r_loadL (b := b3) hI 2 (c := (#[.int .i64 c0.head.kind, .int .i64 c0.head.n, .string c0.head.name, kh, kvc])) sc_SiTerm (by rw [f11]; rfl) rfl ?_
      have k1 := fun (_ : setD D 1 11 = true) => (rfl : setD D 1 1 = true)
      exact ⟨h0_, fun _ => rfl, h2_, h3_, h4_, h5_, h6_, h7_, h8_, h9_, h10_, h11_, ⟨M, cs7, b8, e7, e8, k8, k9, k11, k1, hI⟩⟩
    · intro D hD_  x26 x25 x24 x23 x22 x21 x20 x19 x18 x17 x16 w_
      rintro ⟨h0_, h1_, h2_, h3_, h4_, h5_, h6_, h7_, h8_, h9_, h10_, h11_, ⟨M, cs7, b8, e7, e8, k8, k9, k11, k1, hI⟩⟩
      refine r_field fo_iClause_1 ?_
      exact ⟨h0_, h1_, fun _ => rfl, h3_, h4_, h5_, h6_, h7_, h8_, h9_, h10_, h11_, ⟨M, cs7, b8, e7, e8, k8, k9, k11, k1, hI⟩⟩
    · intro D hD_ d2_0 x26 x25 x24 x23 x22 x21 x20 x19 x18 x17 x16 w_
      rintro ⟨h0_, h1_, h2_, h3_, h4_, h5_, h6_, h7_, h8_, h9_, h10_, h11_, ⟨M, cs7, b8, e7, e8, k8, k9, k11, k1, hI⟩⟩
      obtain rfl := h2_ d2_0
      refine r_loadL hI 0 sc_SiTerm rfl rfl ?_
      exact ⟨h0_, h1_, h2_, fun _ => rfl, h4_, h5_, h6_, h7_, h8_, h9_, h10_, h11_, ⟨M, cs7, b8, e7, e8, k8, k9, k11, k1, hI⟩⟩
    · intro D hD_  x26 x25 x24 x23 x22 x21 x20 x19 x18 x17 x16 w_
      rintro ⟨h0_, h1_, h2_, h3_, h4_, h5_, h6_, h7_, h8_, h9_, h10_, h11_, ⟨M, cs7, b8, e7, e8, k8, k9, k11, k1, hI⟩⟩
      exact ⟨h0_, h1_, h2_, h3_, fun _ => rfl, h5_, h6_, h7_, h8_, h9_, h10_, h11_, ⟨M, cs7, b8, e7, e8, k8, k9, k11, k1, hI⟩⟩
    · intro D hD_ d3_0 d4_1 x26 x25 x24 x23 x22 x21 x20 x19 x18 x17 x16 w_
      rintro ⟨h0_, h1_, h2_, h3_, h4_, h5_, h6_, h7_, h8_, h9_, h10_, h11_, ⟨M, cs7, b8, e7, e8, k8, k9, k11, k1, hI⟩⟩
      obtain rfl := h3_ d3_0
      obtain rfl := h4_ d4_1
      refine r_indexAddr sl_SiTerm hj' ?_
      exact ⟨h0_, h1_, h2_, h3_, h4_, fun _ => rfl, h6_, h7_, h8_, h9_, h10_, h11_, ⟨M, cs7, b8, e7, e8, k8, k9, k11, k1, hI⟩⟩
    · intro D hD_ d5_0 x26 x25 x24 x23 x22 x21 x20 x19 x18 x17 x16 w_
      rintro ⟨h0_, h1_, h2_, h3_, h4_, h5_, h6_, h7_, h8_, h9_, h10_, h11_, ⟨M, cs7, b8, e7, e8, k8, k9, k11, k1, hI⟩⟩
      obtain rfl := h5_ d5_0
      refine r_loadA ag_iTerm hR.length (fun j v hj => by rw [hI.cellS hS]; exact cellsAt_get rfl j v hj) ?_
      exact ⟨h0_, h1_, h2_, h3_, h4_, h5_, fun _ => rfl, h7_, h8_, h9_, h10_, h11_, ⟨M, cs7, b8, e7, e8, k8, k9, k11, k1, hI⟩⟩
    · intro D hD_ d6_0 x26 x25 x24 x23 x22 x21 x20 x19 x18 x17 x16 w_
      rintro ⟨h0_, h1_, h2_, h3_, h4_, h5_, h6_, h7_, h8_, h9_, h10_, h11_, ⟨M, cs7, b8, e7, e8, k8, k9, k11, k1, hI⟩⟩
      obtain rfl := h6_ d6_0
      have f8 : D 8 = false := Bool.eq_false_iff.2 fun h => by rw [k8 h] at hD_; cases hD_
      have f9 : D 9 = false := Bool.eq_false_iff.2 fun h => by rw [k9 h] at f8; cases f8
      have f11 : D 11 = false := Bool.eq_false_iff.2 fun h => by rw [k11 h] at f9; cases f9
      rw [hD_, f8, f9, f11] at hI
      refine Run.call0 fn_s_l1Copy nm_s_l1Copy hI (l1Copy_calls _ S _ hR (by omega)) fun v' I' S w_ => ?_
      rintro ⟨rfl, cs7, M, rfl, rfl, hT⟩ _ hI
      have e7 : setD D 7 7 = true → Value.agg cs7.toArray = Value.agg cs7.toArray ∧ TrT M cs7 (c0.body)[j] := fun _ => ⟨rfl, hT⟩
      have k8 := fun (_ : setD D 7 8 = true) => (rfl : setD D 7 7 = true)
      have hI : Inv w [] (cpItems (.blk b1 (.cells #[.int .i64 c0.head.kind, .int .i64 c0.head.n, .string c0.head.name, kv, .slice (some ⟨b, o, none⟩) c0.body.length cap] t_iClause)) (.blk b2 (.cells #[.int .i64 0, .int .i64 0, .string ⟨#[]⟩, .slice none 0 0, .slice none 0 0] t_iClause)) (.blk b3 (.cells #[.int .i64 c0.head.kind, .int .i64 c0.head.n, .string c0.head.name, kh, kvc] t_iClause)) (.blk b3 (.cells #[.int .i64 c0.head.kind, .int .i64 c0.head.n, .string c0.head.name, kh, x25] t_iClause)) (rowG kvc t_iTerm 4 css) (rowG x25 t_iTerm 4 (css ++ [cs7])) (blks (N :: Ls).flatten) M (.blk b8 (.cells cs7.toArray t_iTerm)) true (D 8) (D 9) (D 11)) S w_ := by
        rw [f8, f9, f11]
        simpa [cpItems] using hI
      exact ⟨h0_, h1_, h2_, h3_, h4_, h5_, h6_, fun _ => by first | assumption | trivial, h8_, h9_, h10_, h11_, ⟨M, cs7, b8, e7, e8, k8, k9, k11, k1, hI⟩⟩
    · intro D hD_ d7_0 x26 x25 x24 x23 x22 x21 x20 x19 x18 x17 x16 w_
      rintro ⟨h0_, h1_, h2_, h3_, h4_, h5_, h6_, h7_, h8_, h9_, h10_, h11_, ⟨M, cs7, b8, e7, e8, k8, k9, k11, k1, hI⟩⟩
      have g7_ := h7_ d7_0
      have f9 : D 9 = false := Bool.eq_false_iff.2 fun h => by rw [k9 h] at hD_; cases hD_
      have f11 : D 11 = false := Bool.eq_false_iff.2 fun h => by rw [k11 h] at f9; cases f9
      obtain ⟨q7, hT⟩ := e7 d7_0
      subst q7
      rw [d7_0, hD_, f9, f11] at hI
      refine r_slice1 hI mk_SiTerm (by simp [Value.cells, hT.length]) (by omega) (by omega) fun b8 w_ hI => ?_
      have e7 : setD D 8 7 = true → Value.agg cs7.toArray = Value.agg cs7.toArray ∧ TrT M cs7 (c0.body)[j] := fun _ => ⟨rfl, hT⟩
      have e8 := fun (_ : setD D 8 8 = true) => (rfl : Value.slice (some ⟨b8, 0, none⟩) 1 1 = _)
      have k8 := fun (_ : setD D 8 8 = true) => d7_0
      have k9 := fun (_ : setD D 8 9 = true) => (rfl : setD D 8 8 = true)
      have hI : Inv w [] (cpItems (.blk b1 (.cells #[.int .i64 c0.head.kind, .int .i64 c0.head.n, .string c0.head.name, kv, .slice (some ⟨b, o, none⟩) c0.body.length cap] t_iClause)) (.blk b2 (.cells #[.int .i64 0, .int .i64 0, .string ⟨#[]⟩, .slice none 0 0, .slice none 0 0] t_iClause)) (.blk b3 (.cells #[.int .i64 c0.head.kind, .int .i64 c0.head.n, .string c0.head.name, kh, kvc] t_iClause)) (.blk b3 (.cells #[.int .i64 c0.head.kind, .int .i64 c0.head.n, .string c0.head.name, kh, x25] t_iClause)) (rowG kvc t_iTerm 4 css) (rowG x25 t_iTerm 4 (css ++ [cs7])) (blks (N :: Ls).flatten) M (.blk b8 (.cells cs7.toArray t_iTerm)) (D 7) true (D 9) (D 11)) S w_ := by
        rw [d7_0, f9, f11]
        simpa [cpItems, Value.cells] using hI
      exact ⟨h0_, h1_, h2_, h3_, h4_, h5_, h6_, h7_, fun _ => by first | assumption | trivial, h9_, h10_, h11_, ⟨M, cs7, b8, e7, e8, k8, k9, k11, k1, hI⟩⟩
    · intro D hD_ d1_0 d8_1 d7_2 x26 x25 x24 x23 x22 x21 x20 x19 x18 x17 x16 w_
      rintro ⟨h0_, h1_, h2_, h3_, h4_, h5_, h6_, h7_, h8_, h9_, h10_, h11_, ⟨M, cs7, b8, e7, e8, k8, k9, k11, k1, hI⟩⟩
      obtain rfl := h1_ d1_0
      have g8_ := h8_ d8_1
      have f11 : D 11 = false := Bool.eq_false_iff.2 fun h => by rw [k11 h] at hD_; cases hD_
      have q8 := e8 d8_1
      subst q8
      obtain ⟨_, hT⟩ := e7 d7_2
      rw [d7_2, d8_1, hD_, f11] at hI
      have hblk : ((cpItems (.blk b1 (.cells #[.int .i64 c0.head.kind, .int .i64 c0.head.n, .string c0.head.name, kv, .slice (some ⟨b, o, none⟩) c0.body.length cap] t_iClause)) (.blk b2 (.cells #[.int .i64 0, .int .i64 0, .string ⟨#[]⟩, .slice none 0 0, .slice none 0 0] t_iClause)) (.blk b3 (.cells #[.int .i64 c0.head.kind, .int .i64 c0.head.n, .string c0.head.name, kh, x17] t_iClause)) (.blk b3 (.cells #[.int .i64 c0.head.kind, .int .i64 c0.head.n, .string c0.head.name, kh, x25] t_iClause)) (rowG x17 t_iTerm 4 css) (rowG x25 t_iTerm 4 (css ++ [cs7])) (blks (N :: Ls).flatten) M (.blk b8 (.cells cs7.toArray t_iTerm)) true true false false))[4 + (blks (N :: Ls).flatten).length + (blks M).length]? = some (.blk b8 (.cells cs7.toArray t_iTerm)) := by
        have e4 : 4 + (blks (N :: Ls).flatten).length + (blks M).length = ((blks (N :: Ls).flatten).length + (blks M).length) + 1 + 1 + 1 + 1 := by omega
        rw [e4]
        simp only [cpItems, List.getElem?_cons_succ]
        rw [List.getElem?_append_right (by omega), Nat.add_sub_cancel_left, List.getElem?_append_right (Nat.le_refl _), Nat.sub_self]; rfl
      refine r_append hI 3 cs7 mk_SiTerm (by omega) rfl (by rw [hT.length]) (m := 1) (o := 0) ?_ hT.one (by omega) (by omega) fun v' w_ hI => ?_
      · intro i u hi
        rw [hI.cellL hblk, Nat.zero_add]
        simpa using hi
      rw [rowG_snoc] at hI
      have k9 := fun (_ : setD D 9 9 = true) => d8_1
      have k11 := fun (_ : setD D 9 11 = true) => (rfl : setD D 9 9 = true)
      have hI : Inv w [] (cpItems (.blk b1 (.cells #[.int .i64 c0.head.kind, .int .i64 c0.head.n, .string c0.head.name, kv, .slice (some ⟨b, o, none⟩) c0.body.length cap] t_iClause)) (.blk b2 (.cells #[.int .i64 0, .int .i64 0, .string ⟨#[]⟩, .slice none 0 0, .slice none 0 0] t_iClause)) (.blk b3 (.cells #[.int .i64 c0.head.kind, .int .i64 c0.head.n, .string c0.head.name, kh, x17] t_iClause)) (.blk b3 (.cells #[.int .i64 c0.head.kind, .int .i64 c0.head.n, .string c0.head.name, kh, v'] t_iClause)) (rowG x17 t_iTerm 4 css) (rowG v' t_iTerm 4 (css ++ [cs7])) (blks (N :: Ls).flatten) M (.blk b8 (.cells cs7.toArray t_iTerm)) (D 7) (D 8) true (D 11)) S w_ := by
        rw [d7_2, d8_1, f11]
        exact hI
      exact ⟨h0_, h1_, h2_, h3_, h4_, h5_, h6_, h7_, h8_, fun _ => by first | assumption | trivial, h10_, h11_, ⟨M, cs7, b8, e7, e8, k8, k9, k11, k1, hI⟩⟩
    · intro D hD_ d0_0 d1_1 d2_2 d3_3 d4_4 d5_5 d6_6 d7_7 d8_8 d9_9 x26 x25 x24 x23 x22 x21 x20 x19 x18 x17 x16 w_
      rintro ⟨h0_, h1_, h2_, h3_, h4_, h5_, h6_, h7_, h8_, h9_, h10_, h11_, ⟨M, cs7, b8, e7, e8, k8, k9, k11, k1, hI⟩⟩
      refine r_field fo_iClause_1 ?_
      exact ⟨h0_, h1_, h2_, h3_, h4_, h5_, h6_, h7_, h8_, h9_, fun _ => rfl, h11_, ⟨M, cs7, b8, e7, e8, k8, k9, k11, k1, hI⟩⟩
    · intro D hD_ d10_0 d9_1 d9_2 d0_3 d1_4 d2_5 d3_6 d4_7 d5_8 d6_9 d7_10 d8_11 d9_12 x26 x25 x24 x23 x22 x21 x20 x19 x18 x17 x16 w_
      rintro ⟨h0_, h1_, h2_, h3_, h4_, h5_, h6_, h7_, h8_, h9_, h10_, h11_, ⟨M, cs7, b8, e7, e8, k8, k9, k11, k1, hI⟩⟩
      obtain rfl := h10_ d10_0
      have g9_ := h9_ d9_1
      rw [d7_10, d8_11, d9_1, hD_] at hI
      obtain ⟨va, vn, vc, hv9⟩ := Inv.rowSlice hI 3 rfl
      refine r_store hI 2 (n := 1) (by rw [hv9]; rfl) (by decide +kernel) rfl (by simp) (by rw [hv9]; simp [Value.cells, Value.oneCell']) fun w_ hI => ?_
      have hcl9 : Value.cells x25 = #[x25] := by rw [hv9]; rfl
      rw [hcl9] at hI
      have k1 := fun (_ : setD D 11 11 = true) => d1_4
      have k11 := fun (_ : setD D 11 11 = true) => d9_1
      have hI : Inv w [] (cpItems (.blk b1 (.cells #[.int .i64 c0.head.kind, .int .i64 c0.head.n, .string c0.head.name, kv, .slice (some ⟨b, o, none⟩) c0.body.length cap] t_iClause)) (.blk b2 (.cells #[.int .i64 0, .int .i64 0, .string ⟨#[]⟩, .slice none 0 0, .slice none 0 0] t_iClause)) (.blk b3 (.cells #[.int .i64 c0.head.kind, .int .i64 c0.head.n, .string c0.head.name, kh, kvc] t_iClause)) (.blk b3 (.cells #[.int .i64 c0.head.kind, .int .i64 c0.head.n, .string c0.head.name, kh, x25] t_iClause)) (rowG kvc t_iTerm 4 css) (rowG x25 t_iTerm 4 (css ++ [cs7])) (blks (N :: Ls).flatten) M (.blk b8 (.cells cs7.toArray t_iTerm)) (D 7) (D 8) (D 9) true) S w_ := by
        rw [d7_10, d8_11, d9_1]
        exact hI
      exact ⟨h0_, h1_, h2_, h3_, h4_, h5_, h6_, h7_, h8_, h9_, h10_, fun _ => trivial, ⟨M, cs7, b8, e7, e8, k8, k9, k11, k1, hI⟩⟩
    intro D d11_ d10_ d9_ d8_ d7_ d6_ d5_ d4_ d3_ d2_ d1_ d0_ x26 x25 x24 x23 x22 x21 x20 x19 x18 x17 x16 w_
    rintro ⟨h0_, h1_, h2_, h3_, h4_, h5_, h6_, h7_, h8_, h9_, h10_, h11_, ⟨M, cs7, b8, e7, e8, k8, k9, k11, k1, hI⟩⟩
    obtain rfl := h10_ d10_
    have g9_ := h9_ d9_
    have g8_ := h8_ d8_
    have g7_ := h7_ d7_
    obtain rfl := h6_ d6_
    obtain rfl := h5_ d5_
    obtain rfl := h4_ d4_
    obtain rfl := h3_ d3_
    obtain rfl := h2_ d2_
    obtain rfl := h1_ d1_
    obtain rfl := h0_ d0_
    clear h0_ h1_ h2_ h3_ h4_ h5_ h6_ h7_ h8_ h9_ h10_ h11_
    obtain ⟨_, hT⟩ := e7 d7_
    rw [d7_, d8_, d9_, d11_] at hI
    refine r_add (by omega) ?_
    refine ⟨⟨j + 1, x25, Ls ++ [M], css ++ [cs7], hj', rfl, ?_, ?_⟩, by simp [intOf]; omega⟩
    · rw [List.take_succ_eq_append_getElem hj']
      exact hg.snoc hT hT.length
    · rw [← List.cons_append, List.flatten_append, blks_append]
      simp only [List.flatten_cons, List.flatten_nil, List.append_nil]
      refine hI.sub ?_
      simp only [cpItems, List.flatten_cons]
      rw [← List.append_assoc]
      exact (((List.sublist_append_left _ _).cons_cons _).cons_cons _).cons_cons _ |>.cons_cons _
  · have : j = c0.body.length := by omega
    subst this
    rw [List.take_length] at hg
    obtain ⟨va, vn, vc, hvk⟩ := hI.rowSlice 3 rfl
    have hv1 : kvc.oneCell' = true := by rw [hvk]; rfl
    have o1 : kh.oneCell' = true := hT1.one kh (by simp)
    refine r_loadW hI 2 ag_iClause rfl rfl ?_
    refine r_storeW hI 1 rfl ag_iClause rfl rfl ?_ fun w' hI => ?_
    · intro u hu
      have hu' : u ∈ ([.int .i64 c0.head.kind, .int .i64 c0.head.n, .string c0.head.name, kh, kvc] : List Value) := hu
      simp at hu'
      rcases hu' with rfl | rfl | rfl | rfl | rfl <;> first | rfl | exact o1 | exact hv1
    refine loadV_W hI 1 ag_iClause rfl rfl ?_
    have hI : Inv w [] (rowG kvc t_iTerm 4 css :: blks (N :: Ls).flatten) S w' := hI.sub (List.sublist_append_right [_, _, _] _)
    rw [List.flatten_cons, blks_append] at hI
    have hI := hI.perm (M := blks N ++ (rowG kvc t_iTerm 4 css :: blks Ls.flatten)) (List.perm_middle)
    obtain ⟨L, hT, hI⟩ := Inv.rowTree hI hg
    exact ⟨_, _, _, rfl, hI, Ext.refl _ _ _, rfl, _, N ++ L, rfl, by rw [blks_append], _, kvc, N, L, rfl, rfl, hT1, hT⟩
theorem l14Copy_calls {p : List C} {S : Store} {v : Value} (h : RdSl S 5 (RdC S) v p) (hw : p.length + wP p ≤ 1048576) : Tri Tryz.prog n_s_l14Copy [v] [] S (PostS 5 TrC S p) := by
  intro w hI
  refine calls_s_l14Copy ?_
  unfold sh_s_l14Copy
  refine r_slice0 hI mk_SiClause fun v0 w' hI => ?_
  refine ⟨fun i t w' => ∃ (k : Nat) (Ls : List Heaplet) (css : List (List Value)), k ≤ p.length ∧ i = .int .i64 k ∧ Grown 5 TrC Ls css (p.take k) ∧ Inv w [] (rowG t t_iClause 5 css :: blks Ls.flatten) S w',
    fun i _ _ => p.length - (intOf i).toNat, ⟨0, [], [], Nat.zero_le _, rfl, Grown.nil _ _, hI⟩, ?_⟩
  intro t4 _ _ t3 _ _ _ _ _ _ _ _ _ _ _ _ w'
  rintro ⟨k, Ls, css, hk, rfl, hg, hI⟩
  refine r_lenSl h sl_SiClause ?_
  refine r_lss ?_
  refine condP (fun hki => ?_) (fun hki => ?_)
  · have hk' : k < p.length := by omega
    have htl : (p.take k).length = k := by simp; omega
    have hcl := hg.hc
    refine r_elem hI h sl_SiClause ag_iClause hk' (fun _ _ => RdC.length) fun cs hcs => ?_
    have hm := List.getElem_mem hk'
    have hwm := wP_mem hm
    refine Run.call0 fn_s_l4Copy nm_s_l4Copy hI (l4Copy_calls hcs (by omega)) fun v' I' S' w' => ?_
    rintro ⟨rfl, cs', L, rfl, rfl, hT⟩ _ hI
    refine r_append1 hI 0 cs' mk_SiClause (by omega) (by omega) rfl hT.length hT.one (by omega) (by omega) fun v' w' hI => ?_
    refine r_add (by omega) ?_
    refine ⟨⟨k + 1, Ls ++ [L], css ++ [cs'], hk', rfl, ?_, ?_⟩, by simp [intOf]; omega⟩
    · rw [List.take_succ_eq_append_getElem hk']
      exact hg.snoc hT hT.length
    · simp only [List.flatten_append, List.flatten_cons, List.flatten_nil, List.append_nil, blks_append]
      exact hI
  · have : k = p.length := by omega
    subst this
    rw [List.take_length] at hg
    obtain ⟨L, hT, hI⟩ := Inv.rowTree (A := []) hI hg
    exact ⟨_, _, _, rfl, hI, Ext.refl _ _ _, rfl, _, rfl, hT⟩
end

end Go.Proofs.YtaaihodhhacapaaGreat

/- append of a whole slice that is only read to a row of the function's own. -/
namespace Go.Proofs.YtaaihodhhacapaaGreat
open Go Go.RowKit
section
variable {P : Program} {w w0 : World} {X : List Nat} {L : List Item} {S : Store} {K : Value → World → Prop}
theorem r_append0 (h : Inv w0 X L S w) {T ty e : TypeId} {k by_ n cp : Nat} {z v : Value} {cs : List Bool} {xs : List Value} {a : Option Addr} (i : Nat)
    (hT : mkOf P T = some (e, k, by_, z)) (hi : L[i]? = some (.row v e k n xs)) (hk : K v w) :
    Run P (sBuiltin .append #[T, T] ty cs [v, .slice a 0 cp]) w K := by
  obtain ⟨hu, inf, hi', hz, hs, hb, hzs⟩ := mkOf_some hT
  have hown := h.its _ (List.mem_of_getElem? hi)
  simp only [Item.holds] at hown
  refine Run.of (v := v) (w' := w) ?_ hk
  rcases hown.2 with ⟨rfl, rfl⟩ | ⟨g, cap, cur, rfl, _, hg, hnc, hcm, hcs, ht⟩
  · cases a <;> simp [sBuiltin, builtin, Builtin.append_, run_underlying hu, sizeOf, typeInfo, hi', Builtin.lenOf, Builtin.firstCells, loadCells, loadCellsFrom]
  · cases a <;> simp [sBuiltin, builtin, Builtin.append_, run_underlying hu, sizeOf, typeInfo, hi', storeCells, hnc, Builtin.lenOf, Builtin.firstCells, loadCells, loadCellsFrom]
end

end Go.Proofs.YtaaihodhhacapaaGreat

/- Rows of clauses that are only read: grown, joined, copied. -/
namespace Go.Proofs.YtaaihodhhacapaaGreat
open Go Go.RowKit

structure Rows {α : Type} (k : Nat) (R : List Value → α → Prop) (css : List (List Value)) (ys : List α) : Prop where
  hc : css.length = ys.length
  hk : ∀ cs ∈ css, cs.length = k
  hR : ∀ i (h : i < ys.length) (h1 : i < css.length), R css[i] ys[i]
theorem Rows.nil {α : Type} (k : Nat) (R : List Value → α → Prop) : Rows k R [] ([] : List α) := ⟨rfl, by simp, fun i h => by simp at h⟩
theorem Rows.snoc {α : Type} {k : Nat} {R : List Value → α → Prop} {css : List (List Value)} {ys : List α} (h : Rows k R css ys) {cs : List Value} {y : α} (hR : R cs y) (hl : cs.length = k) : Rows k R (css ++ [cs]) (ys ++ [y]) := by
  refine ⟨by simp [h.hc], fun c hc => ?_, fun i h0 h2 => ?_⟩
  · rcases List.mem_append.1 hc with hc | hc
    · exact h.hk c hc
    · simp at hc; subst hc; exact hl
  · have e2 := h.hc
    by_cases hi : i < ys.length
    · rw [List.getElem_append_left (by omega), List.getElem_append_left hi]
      exact h.hR i hi (by omega)
    · have : i = ys.length := by simp at h0; omega
      subst this
      rw [List.getElem_append_right (by omega), List.getElem_append_right (by omega)]
      simp only [e2, Nat.sub_self, List.getElem_cons_zero]
      exact hR
theorem Rows.append {α : Type} {k : Nat} {R : List Value → α → Prop} {css css' : List (List Value)} {ys ys' : List α} (h : Rows k R css ys) (h' : Rows k R css' ys') : Rows k R (css ++ css') (ys ++ ys') := by
  have e := h.hc
  have e' := h'.hc
  refine ⟨by simp [e, e'], fun c hc => ?_, fun i h0 h2 => ?_⟩
  · rcases List.mem_append.1 hc with hc | hc
    · exact h.hk c hc
    · exact h'.hk c hc
  · by_cases hi : i < ys.length
    · rw [List.getElem_append_left (by omega), List.getElem_append_left hi]
      exact h.hR i hi (by omega)
    · have hi' : i - css.length < ys'.length := by simp at h0; omega
      rw [List.getElem_append_right (by omega), List.getElem_append_right (by omega)]
      have := h'.hR (i - css.length) hi' (by omega)
      simpa only [e] using this
theorem RowRd.rows {α : Type} {S : Store} {v : Value} {e : TypeId} {k : Nat} {R : List Value → α → Prop} {css : List (List Value)} {ys : List α} (hr : Rows k R css ys) (h : RowRd S v e k css.length css.flatten) : RdSl S k R v ys := by
  obtain ⟨hl, h⟩ := h
  have hcy := hr.hc
  rcases h with ⟨rfl, h0⟩ | ⟨g, cap, cur, rfl, hS, hnc, hcm, hcs, ht⟩
  · have : ys = [] := List.eq_nil_of_length_eq_zero (by omega)
    subst this
    exact ⟨none, 0, rfl, Nat.le_refl _, Nat.zero_le _, .inl rfl⟩
  · refine ⟨_, cap, by rw [hcy], by omega, hcm, .inr ⟨g, 0, cur, e, (0, 0), rfl, hS, fun i hi => ?_⟩⟩
    have := flatten_at k css i hr.hk (by omega)
    have hik : i * k + k ≤ css.length * k := by rw [← Nat.succ_mul]; exact Nat.mul_le_mul_right k (by omega)
    rw [← ht, List.drop_take, List.take_take, Nat.min_eq_left (by omega)] at this
    rw [cellsAt, Nat.zero_add, this]
    exact hr.hR i hi (by omega)
theorem flatten_one {css : List (List Value)} (h : ∀ cs ∈ css, ∀ u ∈ cs, u.oneCell' = true) : ∀ u ∈ css.flatten, u.oneCell' = true := by
  intro u hu
  obtain ⟨cs, hc, hu⟩ := List.mem_flatten.1 hu
  exact h cs hc u hu
theorem flatten_len {k : Nat} : ∀ {css : List (List Value)}, (∀ cs ∈ css, cs.length = k) → css.flatten.length = css.length * k
  | [], _ => by simp
  | c :: css, h => by
    have := flatten_len (css := css) fun cs hc => h cs (List.mem_cons_of_mem _ hc)
    rw [List.flatten_cons, List.length_append, h c (List.mem_cons_self ..), this, List.length_cons, Nat.succ_mul, Nat.add_comm]
section
variable {P : Program} {w w0 : World} {X : List Nat} {L : List Item} {S : Store} {K : Value → World → Prop}
attribute [local irreducible] Run CondV GuardV LoadV
/- append(row, other row...) -/
theorem r_appendRow (h : Inv w0 X L S w) {T ty e : TypeId} {k by_ : Nat} {z v u : Value} {cs : List Bool} {css css2 : List (List Value)} (i i2 : Nat)
    (hT : mkOf P T = some (e, k, by_, z)) (hk0 : 0 < k) (hi : L[i]? = some (rowG v e k css)) (hi2 : L[i2]? = some (rowG u e k css2)) (hk2 : ∀ cs ∈ css2, cs.length = k) (h1 : ∀ cs ∈ css2, ∀ u ∈ cs, u.oneCell' = true)
    (hfit : css.length + css2.length ≤ 4294967296) (hby : by_ ≤ 32768) (hk : ∀ v' w', Inv w0 X (L.set i (rowG v' e k (css ++ css2))) S w' → K v' w') :
    Run P (sBuiltin .append #[T, T] ty cs [v, u]) w K := by
  have hm : w.ownsRow 0 e k u css2.length css2.flatten := h.its _ (List.mem_of_getElem? hi2)
  rcases hm.2 with ⟨rfl, h0⟩ | ⟨g, cap, cur, rfl, _, hg, hnc, hcm, hcs, ht⟩
  · have : css2 = [] := List.eq_nil_of_length_eq_zero h0
    subst this
    refine r_append0 h i hT hi (hk v w ?_)
    have : L.set i (rowG v e k (css ++ [])) = L := by
      obtain ⟨hlt, e'⟩ := List.getElem?_eq_some_iff.1 hi
      rw [List.append_nil, ← e', List.set_getElem_self]
    rw [this]
    exact h
  · refine r_append h i css2.flatten hT hk0 hi (flatten_len hk2) (o := 0) ?_ (flatten_one h1) hfit hby fun v' w' hI => hk _ _ ?_
    · intro j u hj
      rw [Nat.zero_add]
      rw [← ht, List.getElem?_take] at hj
      split at hj
      · simpa [World.cell?, hg] using hj
      · cases hj
    · have e : Item.row v' e k (css.length + css2.length) (css.flatten ++ css2.flatten) = rowG v' e k (css ++ css2) := by simp [rowG]
      rw [← e]
      exact hI
end
end Go.Proofs.YtaaihodhhacapaaGreat

/- Steps that the laws' walks share: results that are trees. -/
namespace Go.Proofs.YtaaihodhhacapaaGreat
open Go Go.RowKit
section
variable {w w0 : World} {X : List Nat} {L A : List Item} {S : Store} {K : Value → World → Prop}
attribute [local irreducible] Run CondV GuardV LoadV
theorem Run.eqTreeC {ys : List C} {u v : Value} {M : Heaplet} (hI : Inv w0 X (A ++ blks M) S w) (hT : TrSl 5 TrC M u ys) (h : RdSl S 5 (RdC S) v ys) (hk : ∀ w', Inv w0 X (A ++ blks M) S w' → K (.bool true) w') :
    Run Tryz.prog (sCall (.func (.func n_l_eqClauseS) #[] #[]) [u, v]) w K := by
  obtain ⟨S1, hle, hins, hI, hb⟩ := Inv.lendAll M hI
  refine Run.callPure fn_l_eqClauseS nm_l_eqClauseS hI (eqClauseS_calls (hT.rd hins fun _ _ _ hi h => h.rd hi) (h.monoC hle)) fun w' hI => ?_
  rw [(eqP_iff ys ys).2 rfl]
  exact hk _ (hb _ _ hI)
theorem Run.markTreeC {ys : List C} {u : Value} {M : Heaplet} {k : Int} (hI : Inv w0 X (A ++ blks M) S w) (hT : TrSl 5 TrC M u ys) (hk0 : 0 ≤ k) (hk1 : k + 3 * cntP ys ≤ 4611686018427387904)
    (hk : ∀ M' w', TrSl 5 TrC M' u (mkP ys k).1 → Inv w0 X (A ++ blks M') S w' → K (.int .i64 (k + 3 * cntP ys)) w') : Run Tryz.prog (sCall (.func (.func n_l_markClauseS) #[] #[]) [u, .int .i64 k]) w K := by
  refine Run.call fn_l_markClauseS nm_l_markClauseS hI (markClauseS_ok hT hk0 hk1) fun v' I' S' w' => ?_
  rintro ⟨rfl, rfl, M', rfl, hT'⟩ _ hI
  rw [mkP_end]
  exact hk _ _ hT' hI
theorem Run.heldTreeC {ys : List C} {u : Value} {M : Heaplet} {k : Int} (hI : Inv w0 X (A ++ blks M) S w) (hT : TrSl 5 TrC M u (mkP ys k).1) (hk0 : 0 ≤ k) (hk1 : k + 3 * cntP ys ≤ 4611686018427387904)
    (hk : ∀ w', Inv w0 X (A ++ blks M) S w' → K (.int .i64 (k + 3 * cntP ys)) w') : Run Tryz.prog (sCall (.func (.func n_l_heldClauseS) #[] #[]) [u, .int .i64 k]) w K := by
  obtain ⟨S1, hle, hins, hI, hb⟩ := Inv.lendAll M hI
  refine Run.callPure fn_l_heldClauseS nm_l_heldClauseS hI (heldClauseS_ok (hT.rd hins fun _ _ _ hi h => h.rd hi) hk0 hk1) fun w' hI => ?_
  rw [mkP_end]
  exact hk _ (hb _ _ hI)
end

end Go.Proofs.YtaaihodhhacapaaGreat

/- Whether terms are the same: both sides. -/
namespace Go.Proofs.YtaaihodhhacapaaGreat
open Go Go.RowKit
attribute [local irreducible] Run CondV GuardV LoadV

def hdEq (t u : T) : Bool := decide (t.kind = u.kind) && (decide (t.n = u.n) && (decide (t.name = u.name) && decide (t.kids.length = u.kids.length)))
theorem hdEq_mk (k n k' n' : Int) (s s' : ByteArray) (ks ks' : List T) : hdEq (.mk k n s ks) (.mk k' n' s' ks') = (decide (k = k') && (decide (n = n') && (decide (s = s') && decide (ks.length = ks'.length)))) := rfl
theorem lenEq {α β : Type} (a : List α) (b : List β) : decide (a.length = b.length) = decide ((a.length : Int) = (b.length : Int)) := by
  rw [Bool.eq_iff_iff]
  simp only [decide_eq_true_eq]
  omega
end Go.Proofs.YtaaihodhhacapaaGreat

/- Whether terms are the same: the program's side. -/
namespace Go.Proofs.YtaaihodhhacapaaGreat
open Go Go.RowKit
attribute [local irreducible] Run CondV GuardV LoadV

end Go.Proofs.YtaaihodhhacapaaGreat

/- Maps from numbers to terms. -/
namespace Go.Proofs.YtaaihodhhacapaaGreat
open Go Go.RowKit

theorem findNow_int {n : Int} : ∀ (l : List MapEntry) (i : Nat), (∀ e ∈ l, ∃ m, e.key = .int .i64 m) →
    (∃ j, ∃ e ∈ l, e.key = .int .i64 n ∧ Instr.findNow (.int .i64) (.int .i64 n) l i = some (some (j, e.val))) ∨ ((∀ e ∈ l, e.key ≠ .int .i64 n) ∧ Instr.findNow (.int .i64) (.int .i64 n) l i = some none)
  | [], i, _ => .inr ⟨by simp, rfl⟩
  | e :: l, i, h => by
    obtain ⟨m, hm⟩ := h e (List.mem_cons_self ..)
    have hs : Instr.sameNow (.int .i64) (.int .i64 n) e.key = some (n == m) := by rw [hm]; rfl
    by_cases hnm : n = m
    · refine .inl ⟨i, e, List.mem_cons_self .., by rw [hm, hnm], ?_⟩
      have : (n == m) = true := by simpa using hnm
      rw [Instr.findNow, hs, this]
    · have h2 : (n == m) = false := by simpa using hnm
      rcases findNow_int l (i + 1) (fun e he => h e (List.mem_cons_of_mem _ he)) with ⟨j, e', he', hk, hf⟩ | ⟨hk, hf⟩
      · exact .inl ⟨j, e', List.mem_cons_of_mem _ he', hk, by rw [Instr.findNow, hs, h2]; exact hf⟩
      · refine .inr ⟨fun x hx => ?_, by rw [Instr.findNow, hs, h2]; exact hf⟩
        rcases List.mem_cons.1 hx with rfl | hx
        · rw [hm]
          intro e'
          simp only [Value.int.injEq, true_and] at e'
          exact hnm e'.symm
        · exact hk x hx
section
variable {P : Program} {w w0 : World} {X : List Nat} {L : List Item} {S : Store} {K : Value → World → Prop}
attribute [local irreducible] Run CondV GuardV LoadV
theorem run_findKeyI {kt : TypeId} {d : TypeDesc} {k : Value} {l : List MapEntry} {a : Option (Nat × Value)} (hd : P.underlying kt = some d) (h : Instr.findNow d k l 0 = some a) : (Instr.findKey kt k l).run P w = .ok a w := by
  simp [Instr.findKey, run_underlying hd, Result.andThen, h]
theorem r_makeMap (h : Inv w0 X L S w) {T ty : TypeId} (hk : ∀ b w', Inv w0 X (L ++ [.blk b (.map #[] 0)]) S w' → K (.map (some b)) w') : Run P (sOp (.makeMap T none) ty) w K := by
  refine Run.of (v := .map (some w.heap.size)) (w' := { w with heap := w.heap.push (.map #[] 0) }) ?_ (hk _ _ (h.alloc _))
  simp [sOp, execOp, Instr.makeMap, newObj, Sem.run]
theorem r_mapNew (h : Inv w0 X L S w) {T kt et ty : TypeId} {b clock : Nat} {es : Array MapEntry} {n : Int} {v : Value} (i : Nat) (hT : P.underlying T = some (.map kt et)) (hkt : P.underlying kt = some (.int .i64))
    (hi : L[i]? = some (.blk b (.map es clock))) (hf : Instr.findNow (.int .i64) (.int .i64 n) es.toList 0 = some none)
    (hk : ∀ w', Inv w0 X (L.set i (.blk b (.map (es.push { key := .int .i64 n, val := v, born := clock }) (clock + 1)))) S w' → K undef w') :
    Run P (sOp (.mapUpdate T (.const (.map (some b))) (.const (.int .i64 n)) (.const v)) ty) w K := by
  have hb : w.heap[b]? = some (.map es clock) := h.its _ (List.mem_of_getElem? hi)
  have hck : ∀ e, (Instr.checkKey e 10000 kt (.int .i64 n)).run P w = .ok () w := fun e => by
    rw [show (10000 : Nat) = 9999 + 1 from rfl, Instr.checkKey]
    simp [run_underlying hkt]
  have hg : (getObj b).run P w = .ok (.map es clock) w := by simp [getObj, Sem.run, hb]
  have hfk := run_findKeyI (P := P) (w := w) hkt hf
  refine Run.ofSkip (w' := { w with heap := w.heap.setIfInBounds b (.map (es.push { key := .int .i64 n, val := v, born := clock }) (clock + 1)) }) ?_ (hk _ (h.setBlk hi _ rfl))
  have hst : (setObj b (.map (es.push { key := .int .i64 n, val := v, born := clock }) (clock + 1))).run P w = .ok () { w with heap := w.heap.setIfInBounds b (.map (es.push { key := .int .i64 n, val := v, born := clock }) (clock + 1)) } := by simp [setObj, Sem.run, hb]
  simp [sOp, execOp, ev0, evE, Instr.mapUpdate, run_underlying hT, hg, hck, hfk, hst]
end

end Go.Proofs.YtaaihodhhacapaaGreat

/- Matching a general term to a special one: the plain form, and spec.l3Match. -/
namespace Go.Proofs.YtaaihodhhacapaaGreat
open Go Go.RowKit

abbrev Known := List (Option T)
/- variables within the table; kinds that are kinds -/
mutual
def okV : T → Prop
  | .mk k n _ ks => (k = 1 → 0 ≤ n ∧ n ≤ 25) ∧ okVL ks
def okVL : List T → Prop
  | [] => True
  | t :: ts => okV t ∧ okVL ts
end
theorem okVL_mem : ∀ {ts : List T}, okVL ts → ∀ t ∈ ts, okV t
  | _ :: _, h, t, ht => by
    rcases List.mem_cons.1 ht with rfl | ht
    · exact h.1
    · exact okVL_mem h.2 t ht
theorem ownB_v {t : T} (h : ownB t = true) : (t.kind = 1 → 0 ≤ t.n ∧ t.n ≤ 25) ∧ t.kind ≠ 0 := by
  unfold ownB at h
  refine ⟨fun hk => ?_, fun hk => ?_⟩
  · rw [if_pos hk] at h
    simp only [Bool.and_eq_true, decide_eq_true_eq] at h
    exact ⟨h.1, h.2.1⟩
  · rw [if_neg (by omega), if_neg (by omega), if_neg (by omega)] at h
    cases h
def noCells : List Value := [.int .i64 0, .int .i64 0, .string ⟨#[]⟩, .slice none 0 0]
/- the table of spec.l3Match -/
def KnownC (S : Store) (c : Array Value) (st : Known) : Prop := 104 ≤ c.size ∧ ∀ i (h : i < st.length), (st[i] = none → cellsAt c (i * 4) 4 = noCells) ∧ (∀ t, st[i] = some t → RdT S (cellsAt c (i * 4) 4) t)
theorem KnownC.set {S : Store} {c : Array Value} {st : Known} (h : KnownC S c st) {n : Nat} (hn : n < 26) {cs : List Value} {u : T} (hu : RdT S cs u) : KnownC S (putCells c (n * 4) cs) (st.set n (some u)) := by
  have hlc := hu.length
  have h1 := h.1
  have hs : 104 ≤ (putCells c (n * 4) cs).size := by rw [putCells_size _ _ _ (by omega)]; exact h1
  refine ⟨hs, fun i hi => ?_⟩
  rw [List.length_set] at hi
  by_cases e : n = i
  · subst e
    rw [List.getElem_set_self]
    refine ⟨fun h => (by cases h), fun t ht => ?_⟩
    simp only [Option.some.injEq] at ht
    subst ht
    have := cellsAt_put_self (c := c) (o := n * 4) (vs := cs) (by omega)
    rw [hlc] at this
    rw [this]
    exact hu
  · rw [List.getElem_set_ne e, cellsAt_put_ne (by omega) (by omega)]
    exact h.2 i hi
section
attribute [local irreducible] Run CondV GuardV LoadV
abbrev kvn (kb kp : Nat) : Value := .slice (some ⟨kb, 0, none⟩) 26 kp
end

end Go.Proofs.YtaaihodhhacapaaGreat

/- Variables numbered anew: the plain form of both sides. -/
namespace Go.Proofs.YtaaihodhhacapaaGreat
open Go Go.RowKit

def lastI : List Int → Int → Int → Nat → Int
  | [], _, cur, _ => cur
  | x :: xs, n, cur, k => lastI xs n (if x = n then (k : Int) else cur) (k + 1)
def idxI (vs : List Int) (n : Int) : Int := (indexF (σ := Unit) (fun _ x => (decide (n = x), ())) () vs 0).1
mutual
def srenT (vs : List Int) : T → T
  | .mk k n s ks => .mk k (if k = 1 then lastI vs n n 0 else n) s (srenL vs ks)
def srenL (vs : List Int) : List T → List T
  | [] => []
  | t :: ts => srenT vs t :: srenL vs ts
end
mutual
def irenT (vs : List Int) : T → T
  | .mk k n s ks => if k = 1 then .mk 1 (idxI vs n) ⟨#[]⟩ [] else .mk k n s (irenL vs ks)
def irenL (vs : List Int) : List T → List T
  | [] => []
  | t :: ts => irenT vs t :: irenL vs ts
end
theorem lastI_not : ∀ (xs : List Int) (n cur : Int) (k : Nat), n ∉ xs → lastI xs n cur k = cur
  | [], n, cur, k, _ => rfl
  | x :: xs, n, cur, k, h => by
    rw [lastI, if_neg (fun e => h (by rw [e]; exact List.mem_cons_self ..)), lastI_not xs n cur (k + 1) fun e => h (List.mem_cons_of_mem _ e)]
theorem lastI_idx : ∀ (xs : List Int) (n cur : Int) (k : Nat), n ∈ xs → xs.Nodup → lastI xs n cur k = (indexF (σ := Unit) (fun _ x => (decide (n = x), ())) () xs k).1
  | x :: xs, n, cur, k, h, hd => by
    rw [List.nodup_cons] at hd
    rw [lastI, indexF]
    by_cases e : x = n
    · subst e
      rw [if_pos rfl, lastI_not _ _ _ _ hd.1]
      simp
    · rw [if_neg e]
      have h' : n ∈ xs := by
        rcases List.mem_cons.1 h with h | h
        · exact absurd h.symm e
        · exact h
      have : decide (n = x) = false := decide_eq_false fun q => e q.symm
      simp only [this, Bool.false_eq_true, if_false]
      exact lastI_idx xs n cur (k + 1) h' hd.2
theorem lastI_rng : ∀ (xs : List Int) (n cur : Int) (k : Nat), lastI xs n cur k = cur ∨ (0 ≤ lastI xs n cur k ∧ lastI xs n cur k < k + xs.length)
  | [], n, cur, k => .inl rfl
  | x :: xs, n, cur, k => by
    rw [lastI]
    rcases lastI_rng xs n (if x = n then (k : Int) else cur) (k + 1) with h | h
    · split at h
      · right; rw [if_pos (by assumption), h]; simp; omega
      · left; rw [if_neg (by assumption)]; exact h
    · right
      simp only [List.length_cons]
      omega
theorem idxI_rng (vs : List Int) (n : Int) : -1 ≤ idxI vs n ∧ idxI vs n < vs.length + 1 := by
  have : ∀ (xs : List Int) (k : Nat), -1 ≤ (indexF (σ := Unit) (fun _ x => (decide (n = x), ())) () xs k).1 ∧ (indexF (σ := Unit) (fun _ x => (decide (n = x), ())) () xs k).1 < k + xs.length + 1 := by
    intro xs
    induction xs with
    | nil => intro k; simp [indexF]; omega
    | cons x xs ih =>
      intro k
      rw [indexF]
      have := ih (k + 1)
      split
      · simp; omega
      · simp only [List.length_cons]; omega
  have h := this vs 0
  rw [idxI]
  omega
mutual
def inT (vs : List Int) : T → Prop
  | .mk k n _ ks => (k = 1 → n ∈ vs) ∧ inL vs ks
def inL (vs : List Int) : List T → Prop
  | [] => True
  | t :: ts => inT vs t ∧ inL vs ts
end
theorem hasI_mem (l : List Int) (n : Int) : hasI l n = true ↔ n ∈ l := by
  simp [hasI]
theorem addI_mem (l : List Int) (n : Int) : n ∈ addI l n ∧ ∀ m ∈ l, m ∈ addI l n := by
  unfold addI
  split
  · rename_i h; exact ⟨(hasI_mem l n).1 h, fun m h => h⟩
  · exact ⟨by simp, fun m h => by simp [h]⟩
theorem addI_nodup {l : List Int} (n : Int) (h : l.Nodup) : (addI l n).Nodup := by
  unfold addI
  split
  · exact h
  · rename_i hn
    rw [List.nodup_append]
    refine ⟨h, by simp, fun a ha b hb e => hn ((hasI_mem l n).2 ?_)⟩
    simp at hb
    rw [← hb, ← e]
    exact ha
mutual
theorem varsT_sub : ∀ (t : T) (l : List Int), ∀ m ∈ l, m ∈ varsT t l
  | .mk k n s ks, l, m, h => by
    rw [varsT]
    refine varsL_sub ks _ m ?_
    split
    · exact (addI_mem l n).2 m h
    · exact h
theorem varsL_sub : ∀ (ts : List T) (l : List Int), ∀ m ∈ l, m ∈ varsL ts l
  | [], l, m, h => h
  | t :: ts, l, m, h => by
    rw [varsL]
    exact varsL_sub ts _ m (varsT_sub t l m h)
end
mutual
theorem varsT_nodup : ∀ (t : T) (l : List Int), l.Nodup → (varsT t l).Nodup
  | .mk k n s ks, l, h => by
    rw [varsT]
    refine varsL_nodup ks _ ?_
    split
    · exact addI_nodup n h
    · exact h
theorem varsL_nodup : ∀ (ts : List T) (l : List Int), l.Nodup → (varsL ts l).Nodup
  | [], l, h => h
  | t :: ts, l, h => by
    rw [varsL]
    exact varsL_nodup ts _ (varsT_nodup t l h)
end
mutual
theorem inT_mono {vs ws : List Int} (h : ∀ m ∈ vs, m ∈ ws) : ∀ t : T, inT vs t → inT ws t
  | .mk k n s ks, hi => by
    rw [inT] at hi ⊢
    exact ⟨fun e => h _ (hi.1 e), inL_mono h ks hi.2⟩
theorem inL_mono {vs ws : List Int} (h : ∀ m ∈ vs, m ∈ ws) : ∀ ts : List T, inL vs ts → inL ws ts
  | [], _ => by simp [inL]
  | t :: ts, hi => by
    rw [inL] at hi ⊢
    exact ⟨inT_mono h t hi.1, inL_mono h ts hi.2⟩
end
mutual
theorem varsT_in : ∀ (t : T) (l : List Int), inT (varsT t l) t
  | .mk k n s ks, l => by
    rw [varsT, inT]
    refine ⟨fun e => varsL_sub ks _ n ?_, varsL_in ks _⟩
    rw [if_pos e]
    exact (addI_mem l n).1
theorem varsL_in : ∀ (ts : List T) (l : List Int), inL (varsL ts l) ts
  | [], l => by simp [inL]
  | t :: ts, l => by
    rw [varsL, inL]
    exact ⟨inT_mono (varsL_sub ts _) t (varsT_in t l), varsL_in ts _⟩
end
theorem ownB_var {t : T} (h : ownB t = true) (hk : t.kind = 1) : t.name = emptyB ∧ t.kids.length = 0 := by
  unfold ownB at h
  rw [if_pos hk] at h
  simp only [Bool.and_eq_true, decide_eq_true_eq] at h
  exact ⟨h.2.2.1, h.2.2.2⟩
theorem srenL_len (vs : List Int) : ∀ ts : List T, (srenL vs ts).length = ts.length
  | [] => rfl
  | t :: ts => by rw [srenL]; simp [srenL_len vs ts]
theorem irenL_len (vs : List Int) : ∀ ts : List T, (irenL vs ts).length = ts.length
  | [] => rfl
  | t :: ts => by rw [irenL]; simp [irenL_len vs ts]
theorem srenL_take (vs : List Int) (ts : List T) (j : Nat) (h : j < ts.length) : srenL vs (ts.take (j + 1)) = srenL vs (ts.take j) ++ [srenT vs ts[j]] := by
  have : ∀ (xs ys : List T), srenL vs (xs ++ ys) = srenL vs xs ++ srenL vs ys := by
    intro xs ys
    induction xs with
    | nil => rfl
    | cons x xs ih => simp [srenL, ih]
  rw [List.take_succ_eq_append_getElem h, this]; rfl
theorem irenL_take (vs : List Int) (ts : List T) (j : Nat) (h : j < ts.length) : irenL vs (ts.take (j + 1)) = irenL vs (ts.take j) ++ [irenT vs ts[j]] := by
  have : ∀ (xs ys : List T), irenL vs (xs ++ ys) = irenL vs xs ++ irenL vs ys := by
    intro xs ys
    induction xs with
    | nil => rfl
    | cons x xs ih => simp [irenL, ih]
  rw [List.take_succ_eq_append_getElem h, this]; rfl
def numC (vs : List Int) (c : C) : C := ⟨srenT vs c.head, srenL vs c.body⟩
def cvars (c : C) : List Int := svarsL (c.head :: c.body) []
end Go.Proofs.YtaaihodhhacapaaGreat

/- Unification: the plain form. Lists of bindings, what a variable reaches, unifiers, resolved terms. -/
namespace Go.Proofs.YtaaihodhhacapaaGreat
open Go Go.RowKit
/- terms whose variables are bare and below a number -/
mutual
def okU (N : Nat) : T → Prop
  | .mk k n s ks => k ≠ 0 ∧ (k = 1 → 0 ≤ n ∧ n < N ∧ s = emptyB ∧ ks = []) ∧ okUL N ks ∧ s.size ≤ 6
def okUL (N : Nat) : List T → Prop
  | [] => True
  | t :: ts => okU N t ∧ okUL N ts
end
mutual
def vT : T → List Nat
  | .mk k n _ ks => if k = 1 then [n.toNat] else vTL ks
def vTL : List T → List Nat
  | [] => []
  | t :: ts => vT t ++ vTL ts
end
theorem okUL_mem {N : Nat} : ∀ {ts : List T}, okUL N ts → ∀ t ∈ ts, okU N t
  | t :: ts, h, x, hx => by
    rw [okUL] at h
    rcases List.mem_cons.1 hx with rfl | hx
    · exact h.1
    · exact okUL_mem h.2 x hx
theorem okUL_of {N : Nat} : ∀ {ts : List T}, (∀ t ∈ ts, okU N t) → okUL N ts
  | [], _ => by rw [okUL]; trivial
  | t :: ts, h => by rw [okUL]; exact ⟨h t (List.mem_cons_self ..), okUL_of fun u hu => h u (List.mem_cons_of_mem _ hu)⟩
theorem vTL_mem : ∀ {ts : List T} {m : Nat}, m ∈ vTL ts ↔ ∃ t ∈ ts, m ∈ vT t
  | [], m => by simp [vTL]
  | t :: ts, m => by rw [vTL, List.mem_append, vTL_mem]; simp
theorem okU.kids {N : Nat} {t : T} (h : okU N t) : okUL N t.kids := by cases t; rw [okU] at h; exact h.2.2.1
theorem okU.var {N : Nat} {t : T} (h : okU N t) (hk : t.kind = 1) : 0 ≤ t.n ∧ t.n < N ∧ t.name = emptyB ∧ t.kids = [] := by cases t; rw [okU] at h; exact h.2.1 hk
theorem okU.kind {N : Nat} {t : T} (h : okU N t) : t.kind ≠ 0 := by cases t; rw [okU] at h; exact h.1
theorem vT_var {t : T} (h : t.kind = 1) : vT t = [t.n.toNat] := by cases t; rw [vT]; exact if_pos h
theorem vT_kids {t : T} (h : t.kind ≠ 1) : vT t = vTL t.kids := by cases t; rw [vT]; exact if_neg h
mutual
theorem vT_lt {N : Nat} : ∀ (t : T), okU N t → ∀ m ∈ vT t, m < N
  | .mk k n s ks, h, m, hm => by
    rw [okU] at h
    rw [vT] at hm
    split at hm
    · rename_i hk
      have := h.2.1 hk
      simp at hm
      omega
    · exact vTL_lt ks h.2.2.1 m hm
theorem vTL_lt {N : Nat} : ∀ (ts : List T), okUL N ts → ∀ m ∈ vTL ts, m < N
  | [], _, m, hm => by simp [vTL] at hm
  | t :: ts, h, m, hm => by
    rw [okUL] at h
    rw [vTL, List.mem_append] at hm
    rcases hm with hm | hm
    · exact vT_lt t h.1 m hm
    · exact vTL_lt ts h.2 m hm
end
/- what a term is bound to -/
def look (st : Known) (t : T) : Option T := if t.kind = 1 then (st[t.n.toNat]?).join else none
theorem look_some {st : Known} {t u : T} : look st t = some u ↔ t.kind = 1 ∧ st[t.n.toNat]? = some (some u) := by
  unfold look
  split
  · rename_i h
    simp only [Option.join_eq_some_iff]
    exact ⟨fun e => ⟨h, e⟩, fun e => e.2⟩
  · rename_i h
    simp [h]
theorem look_none {st : Known} {t : T} : look st t = none ↔ (t.kind = 1 → st[t.n.toNat]? = none ∨ st[t.n.toNat]? = some none) := by
  unfold look
  split
  · rename_i h
    rw [Option.join_eq_none_iff]
    constructor
    · intro e _
      rcases e with e | e
      · exact .inl e
      · exact .inr e
    · intro e
      rcases e h with e | e
      · exact .inl e
      · exact .inr e
  · rename_i h
    simp [h]
inductive WalkR (st : Known) : T → T → Prop
  | stop {t : T} : look st t = none → WalkR st t t
  | step {t u v : T} : look st t = some u → WalkR st u v → WalkR st t v
inductive Rch (st : Known) : Nat → Nat → Prop
  | refl (m : Nat) : Rch st m m
  | step {m k n : Nat} {u : T} : st[m]? = some (some u) → k ∈ vT u → Rch st k n → Rch st m n
theorem Rch.trans {st : Known} {a b c : Nat} (h : Rch st a b) (h' : Rch st b c) : Rch st a c := by
  induction h with
  | refl => exact h'
  | step h1 h2 _ ih => exact .step h1 h2 (ih h')
def OccP (st : Known) (n : Nat) (t : T) : Prop := ∃ m ∈ vT t, Rch st m n
structure Good (N : Nat) (st : Known) : Prop where
  len : st.length = N
  ok : ∀ t, some t ∈ st → okU N t
  w : ∀ t, some t ∈ st → wT t ≤ 1048576
  rk : ∃ r : Nat → Nat, ∀ (n : Nat) (u : T), st[n]? = some (some u) → ∀ m ∈ vT u, r m < r n
theorem Good.look_ok {N : Nat} {st : Known} (h : Good N st) {t u : T} (hl : look st t = some u) : okU N u ∧ wT u ≤ 1048576 := by
  have := List.mem_of_getElem? (look_some.1 hl).2
  exact ⟨h.ok u this, h.w u this⟩
theorem walk_ok {N : Nat} {st : Known} {t v : T} (h : Good N st) (hw : WalkR st t v) (ht : okU N t ∧ wT t ≤ 1048576) : okU N v ∧ wT v ≤ 1048576 := by
  induction hw with
  | stop => exact ht
  | step hl _ ih => exact ih (h.look_ok hl)
theorem walk_none {st : Known} {t v : T} (hw : WalkR st t v) : look st v = none := by
  induction hw with
  | stop h => exact h
  | step _ _ ih => exact ih
theorem walk_ex {N : Nat} {st : Known} (h : Good N st) (t : T) : ∃ v, WalkR st t v := by
  obtain ⟨r, hr⟩ := h.rk
  have : ∀ (k : Nat) (t : T), (∀ u, look st t = some u → r t.n.toNat < k) → ∃ v, WalkR st t v := by
    intro k
    induction k with
    | zero =>
      intro t ht
      cases hl : look st t with
      | none => exact ⟨t, .stop hl⟩
      | some u => have := ht u hl; omega
    | succ k ih =>
      intro t ht
      cases hl : look st t with
      | none => exact ⟨t, .stop hl⟩
      | some u =>
        have h1 := ht u hl
        obtain ⟨v, hv⟩ := ih u fun u' hu' => by
          obtain ⟨hk, _⟩ := look_some.1 hu'
          have := hr _ _ (look_some.1 hl).2 u.n.toNat (by rw [vT_var hk]; simp)
          omega
        exact ⟨v, .step hl hv⟩
  exact this (r t.n.toNat + 1) t fun _ _ => Nat.lt_succ_self _
/- what a walk leaves open -/
theorem walk_rch {st : Known} {t v : T} (hw : WalkR st t v) {n : Nat} (hn : ∀ u, st[n]? ≠ some (some u)) : OccP st n t ↔ OccP st n v := by
  induction hw with
  | stop => exact Iff.rfl
  | step hl _ ih =>
    rename_i t u v
    rw [← ih]
    obtain ⟨hk, hs⟩ := look_some.1 hl
    constructor
    · rintro ⟨m, hm, hr⟩
      rw [vT_var hk, List.mem_singleton] at hm
      subst hm
      cases hr with
      | refl => exact absurd hs (hn _)
      | step h1 h2 h3 =>
        rw [hs, Option.some.injEq, Option.some.injEq] at h1
        subst h1
        exact ⟨_, h2, h3⟩
    · rintro ⟨m, hm, hr⟩
      exact ⟨_, by rw [vT_var hk]; exact List.mem_singleton.2 rfl, .step hs hm hr⟩
/- bindings that are left -/
def unb : Known → Nat
  | [] => 0
  | none :: st => unb st + 1
  | some _ :: st => unb st
theorem unb_set : ∀ (st : Known) (n : Nat) (t : T), st[n]? = some none → unb (st.set n (some t)) + 1 = unb st
  | [], n, t, h => by simp at h
  | x :: st, 0, t, h => by
    simp only [List.getElem?_cons_zero, Option.some.injEq] at h
    subst h
    rfl
  | x :: st, n + 1, t, h => by
    have h' : st[n]? = some none := by simpa using h
    have := unb_set st n t h'
    cases x <;> simp only [List.set_cons_succ, unb] <;> omega
open Classical in
theorem Good.set {N : Nat} {st : Known} (h : Good N st) {n : Nat} {t : T} (hn : st[n]? = some none) (ht : okU N t) (hw : wT t ≤ 1048576) (ho : ¬ OccP st n t) : Good N (st.set n (some t)) := by
  have hnl : n < st.length := (List.getElem?_eq_some_iff.1 hn).1
  refine ⟨by rw [List.length_set]; exact h.len, fun u hu => ?_, fun u hu => ?_, ?_⟩
  · rcases List.mem_or_eq_of_mem_set hu with hu | hu
    · exact h.ok u hu
    · rw [Option.some.injEq] at hu
      rw [hu]; exact ht
  · rcases List.mem_or_eq_of_mem_set hu with hu | hu
    · exact h.w u hu
    · rw [Option.some.injEq] at hu
      rw [hu]; exact hw
  · obtain ⟨r, hr⟩ := h.rk
    have hM : ∀ l : List Nat, ∃ M, ∀ m ∈ l, r m ≤ M := by
      intro l
      induction l with
      | nil => exact ⟨0, by simp⟩
      | cons x l ih =>
        obtain ⟨M, hM⟩ := ih
        refine ⟨M + r x, fun m hm => ?_⟩
        rcases List.mem_cons.1 hm with rfl | hm
        · omega
        · have := hM m hm; omega
    obtain ⟨M, hM⟩ := hM (vT t)
    refine ⟨fun m => if Rch st m n then r m + M + 1 else r m, fun k u hku m hm => ?_⟩
    by_cases hkn : n = k
    · subst hkn
      rw [List.getElem?_set_self hnl, Option.some.injEq, Option.some.injEq] at hku
      subst hku
      have h1 : ¬ Rch st m n := fun e => ho ⟨m, hm, e⟩
      have h2 := hM m hm
      simp only [if_neg h1, if_pos (Rch.refl (st := st) n)]
      omega
    · rw [List.getElem?_set_ne hkn] at hku
      have h1 := hr k u hku m hm
      by_cases hmn : Rch st m n
      · have h2 : Rch st k n := .step hku hm hmn
        simp only [if_pos hmn, if_pos h2]
        omega
      · simp only [if_neg hmn]
        split <;> omega
/- unification -/
inductive Job where
  | one (a b : T)
  | list (xs ys : List T)
inductive Uni : Known → Job → Bool → Known → Prop
  | same {st : Known} {a b a' b' : T} : WalkR st a a' → WalkR st b b' → a'.kind = 1 → b'.kind = 1 → a'.n = b'.n → Uni st (.one a b) true st
  | bindA {st : Known} {a b a' b' : T} : WalkR st a a' → WalkR st b b' → a'.kind = 1 → ¬ (b'.kind = 1 ∧ a'.n = b'.n) → ¬ OccP st a'.n.toNat b' → Uni st (.one a b) true (st.set a'.n.toNat (some b'))
  | occA {st : Known} {a b a' b' : T} : WalkR st a a' → WalkR st b b' → a'.kind = 1 → ¬ (b'.kind = 1 ∧ a'.n = b'.n) → OccP st a'.n.toNat b' → Uni st (.one a b) false st
  | bindB {st : Known} {a b a' b' : T} : WalkR st a a' → WalkR st b b' → a'.kind ≠ 1 → b'.kind = 1 → ¬ OccP st b'.n.toNat a' → Uni st (.one a b) true (st.set b'.n.toNat (some a'))
  | occB {st : Known} {a b a' b' : T} : WalkR st a a' → WalkR st b b' → a'.kind ≠ 1 → b'.kind = 1 → OccP st b'.n.toNat a' → Uni st (.one a b) false st
  | clash {st : Known} {a b a' b' : T} : WalkR st a a' → WalkR st b b' → a'.kind ≠ 1 → b'.kind ≠ 1 → hdEq a' b' = false → Uni st (.one a b) false st
  | kids {st st' : Known} {a b a' b' : T} {r : Bool} : WalkR st a a' → WalkR st b b' → a'.kind ≠ 1 → b'.kind ≠ 1 → hdEq a' b' = true → Uni st (.list a'.kids b'.kids) r st' → Uni st (.one a b) r st'
  | nil {st : Known} : Uni st (.list [] []) true st
  | stop {st st' : Known} {a b : T} {xs ys : List T} : Uni st (.one a b) false st' → Uni st (.list (a :: xs) (b :: ys)) false st'
  | go {st st1 st' : Known} {a b : T} {xs ys : List T} {r : Bool} : Uni st (.one a b) true st1 → Uni st1 (.list xs ys) r st' → Uni st (.list (a :: xs) (b :: ys)) r st'
def okJ (N : Nat) : Job → Prop
  | .one a b => (okU N a ∧ wT a ≤ 1048576) ∧ (okU N b ∧ wT b ≤ 1048576)
  | .list xs ys => (∀ a ∈ xs, okU N a ∧ wT a ≤ 1048576) ∧ (∀ b ∈ ys, okU N b ∧ wT b ≤ 1048576) ∧ xs.length = ys.length
theorem kids_ok {N : Nat} {t : T} (h : okU N t ∧ wT t ≤ 1048576) : ∀ x ∈ t.kids, okU N x ∧ wT x ≤ 1048576 := by
  intro x hx
  refine ⟨okUL_mem h.1.kids x hx, ?_⟩
  have h1 := wL_mem hx
  have h2 := h.2
  cases t
  rw [wT] at h2
  simp only [T.kids] at h1
  omega
theorem hdEq_len {a b : T} (h : hdEq a b = true) : a.kids.length = b.kids.length := by
  rw [hdEq] at h
  simp only [Bool.and_eq_true, decide_eq_true_eq] at h
  exact h.2.2.2
theorem free_var {N : Nat} {st : Known} (h : Good N st) {a : T} (hk : a.kind = 1) (hl : look st a = none) (ho : okU N a) : st[a.n.toNat]? = some none := by
  obtain ⟨h0, h1, _⟩ := ho.var hk
  rcases look_none.1 hl hk with e | e
  · have := List.getElem?_eq_none_iff.1 e
    have := h.len
    omega
  · exact e
theorem Uni.good {N : Nat} {st st' : Known} {j : Job} {r : Bool} (hu : Uni st j r st') : Good N st → okJ N j → Good N st' ∧ (st' = st ∨ unb st' < unb st) := by
  induction hu with
  | same => exact fun h _ => ⟨h, .inl rfl⟩
  | occA => exact fun h _ => ⟨h, .inl rfl⟩
  | occB => exact fun h _ => ⟨h, .inl rfl⟩
  | clash => exact fun h _ => ⟨h, .inl rfl⟩
  | nil => exact fun h _ => ⟨h, .inl rfl⟩
  | bindA ha hb hk hns ho =>
    rename_i a' b'
    intro h hj
    have h1 := walk_ok h ha hj.1
    have h2 := walk_ok h hb hj.2
    have hf := free_var h hk (walk_none ha) h1.1
    have := unb_set _ _ b' hf
    exact ⟨h.set hf h2.1 h2.2 ho, .inr (by omega)⟩
  | bindB ha hb hns hk ho =>
    rename_i a' b'
    intro h hj
    have h1 := walk_ok h ha hj.1
    have h2 := walk_ok h hb hj.2
    have hf := free_var h hk (walk_none hb) h2.1
    have := unb_set _ _ a' hf
    exact ⟨h.set hf h1.1 h1.2 ho, .inr (by omega)⟩
  | kids ha hb _ _ hd _ ih =>
    intro h hj
    exact ih h ⟨kids_ok (walk_ok h ha hj.1), kids_ok (walk_ok h hb hj.2), hdEq_len hd⟩
  | stop _ ih =>
    intro h hj
    exact ih h ⟨hj.1 _ (List.mem_cons_self ..), hj.2.1 _ (List.mem_cons_self ..)⟩
  | go _ _ ih1 ih2 =>
    intro h hj
    obtain ⟨h1, h2⟩ := ih1 h ⟨hj.1 _ (List.mem_cons_self ..), hj.2.1 _ (List.mem_cons_self ..)⟩
    obtain ⟨h3, h4⟩ := ih2 h1 ⟨fun a ha => hj.1 a (List.mem_cons_of_mem _ ha), fun b hb => hj.2.1 b (List.mem_cons_of_mem _ hb), by have := hj.2.2; simpa using this⟩
    refine ⟨h3, ?_⟩
    rcases h2 with rfl | h2
    · exact h4
    · rcases h4 with rfl | h4
      · exact .inr h2
      · exact .inr (by omega)
open Classical in
theorem uni_ex {N : Nat} : ∀ (U : Nat) (st : Known), Good N st → unb st ≤ U → ∀ j, okJ N j → ∃ r st', Uni st j r st' := by
  intro U
  induction U using Nat.strongRecOn with
  | _ U ihU =>
    intro st hg hU
    -- lists of terms of which each is known to have an answer
    have hlist : ∀ (xs ys : List T), okJ N (.list xs ys) → (∀ a ∈ xs, ∀ b, okJ N (.one a b) → ∃ r st', Uni st (.one a b) r st') → ∃ r st', Uni st (.list xs ys) r st' := by
      intro xs
      induction xs with
      | nil =>
        intro ys hj _
        have : ys = [] := List.eq_nil_of_length_eq_zero hj.2.2.symm
        subst this
        exact ⟨true, st, .nil⟩
      | cons a xs ih =>
        intro ys hj hP
        cases ys with
        | nil => have := hj.2.2; simp at this
        | cons b ys =>
          have hjab : okJ N (.one a b) := ⟨hj.1 _ (List.mem_cons_self ..), hj.2.1 _ (List.mem_cons_self ..)⟩
          have hjl : okJ N (.list xs ys) := ⟨fun a ha => hj.1 a (List.mem_cons_of_mem _ ha), fun b hb => hj.2.1 b (List.mem_cons_of_mem _ hb), by have := hj.2.2; simpa using this⟩
          obtain ⟨r, st1, h1⟩ := hP a (List.mem_cons_self ..) b hjab
          cases r with
          | false => exact ⟨false, st1, .stop h1⟩
          | true =>
            obtain ⟨hg1, hu1⟩ := h1.good hg hjab
            rcases hu1 with rfl | hu1
            · obtain ⟨r, st2, h2⟩ := ih ys hjl fun a ha => hP a (List.mem_cons_of_mem _ ha)
              exact ⟨r, st2, .go h1 h2⟩
            · obtain ⟨r, st2, h2⟩ := ihU (unb st1) (by omega) st1 hg1 (Nat.le_refl _) _ hjl
              exact ⟨r, st2, .go h1 h2⟩
    obtain ⟨rk, hrk⟩ := hg.rk
    have hone : ∀ (m : Nat) (a : T), (∀ x ∈ vT a, ∀ u, st[x]? = some (some u) → rk x < m) → ∀ b, okJ N (.one a b) → ∃ r st', Uni st (.one a b) r st' := by
      intro m
      induction m using Nat.strongRecOn with
      | _ m ihm =>
        refine T.ind fun k n s ks ih hr b hj => ?_
        obtain ⟨b', hb⟩ := walk_ex hg b
        have hbo := walk_ok hg hb hj.2
        cases hl : look st (.mk k n s ks) with
        | some u =>
          obtain ⟨hk, hs⟩ := look_some.1 hl
          have hlt := hr _ (by rw [vT_var hk]; exact List.mem_singleton.2 rfl) u hs
          have hju : okJ N (.one u b) := ⟨hg.look_ok hl, hj.2⟩
          obtain ⟨r, st', hu⟩ := ihm _ hlt u (fun x hx _ _ => hrk _ _ hs x hx) b hju
          refine ⟨r, st', ?_⟩
          cases hu with
          | same h1 h2 h3 h4 h5 => exact .same (.step hl h1) h2 h3 h4 h5
          | bindA h1 h2 h3 h4 h5 => exact .bindA (.step hl h1) h2 h3 h4 h5
          | occA h1 h2 h3 h4 h5 => exact .occA (.step hl h1) h2 h3 h4 h5
          | bindB h1 h2 h3 h4 h5 => exact .bindB (.step hl h1) h2 h3 h4 h5
          | occB h1 h2 h3 h4 h5 => exact .occB (.step hl h1) h2 h3 h4 h5
          | clash h1 h2 h3 h4 h5 => exact .clash (.step hl h1) h2 h3 h4 h5
          | kids h1 h2 h3 h4 h5 h6 => exact .kids (.step hl h1) h2 h3 h4 h5 h6
        | none =>
          have ha : WalkR st (.mk k n s ks) (.mk k n s ks) := .stop hl
          by_cases hk : (T.mk k n s ks).kind = 1
          · by_cases hsame : b'.kind = 1 ∧ (T.mk k n s ks).n = b'.n
            · exact ⟨_, _, .same ha hb hk hsame.1 hsame.2⟩
            · by_cases ho : OccP st (T.mk k n s ks).n.toNat b'
              · exact ⟨_, _, .occA ha hb hk hsame ho⟩
              · exact ⟨_, _, .bindA ha hb hk hsame ho⟩
          · by_cases hkb : b'.kind = 1
            · by_cases ho : OccP st b'.n.toNat (T.mk k n s ks)
              · exact ⟨_, _, .occB ha hb hk hkb ho⟩
              · exact ⟨_, _, .bindB ha hb hk hkb ho⟩
            · cases hd : hdEq (T.mk k n s ks) b' with
              | false => exact ⟨_, _, .clash ha hb hk hkb hd⟩
              | true =>
                obtain ⟨r, st', hu⟩ := hlist ks b'.kids ⟨kids_ok hj.1, kids_ok hbo, hdEq_len hd⟩ fun a ha' b2 hj2 =>
                  ih a ha' (fun x hx u hs => hr x (by rw [vT_kids hk]; exact vTL_mem.2 ⟨a, ha', hx⟩) u hs) b2 hj2
                exact ⟨r, st', .kids ha hb hk hkb hd hu⟩
    have hall : ∀ a b, okJ N (.one a b) → ∃ r st', Uni st (.one a b) r st' := by
      intro a b hj
      have hM : ∀ l : List Nat, ∃ M, ∀ m ∈ l, rk m < M := by
        intro l
        induction l with
        | nil => exact ⟨0, by simp⟩
        | cons x l ih =>
          obtain ⟨M, hM⟩ := ih
          refine ⟨M + rk x + 1, fun m hm => ?_⟩
          rcases List.mem_cons.1 hm with rfl | hm
          · omega
          · have := hM m hm; omega
      obtain ⟨M, hM⟩ := hM (vT a)
      exact hone M a (fun x hx _ _ => hM x hx) b hj
    intro j hj
    cases j with
    | one a b => exact hall a b hj
    | list xs ys => exact hlist xs ys hj fun a _ b hjb => hall a b hjb
/- resolved terms -/
inductive RJob where
  | one (t u : T)
  | list (ts us : List T)
inductive Res (st : Known) : RJob → Prop
  | one {t v : T} {us : List T} : WalkR st t v → Res st (.list v.kids us) → Res st (.one t (.mk v.kind v.n v.name us))
  | nil : Res st (.list [] [])
  | cons {t u : T} {ts us : List T} : Res st (.one t u) → Res st (.list ts us) → Res st (.list (t :: ts) (u :: us))
theorem res_ex {N : Nat} {st : Known} (h : Good N st) (t : T) (ho : okU N t) : ∃ u, Res st (.one t u) := by
  obtain ⟨rk, hrk⟩ := h.rk
  have hlist : ∀ ts : List T, (∀ t ∈ ts, ∃ u, Res st (.one t u)) → ∃ us, Res st (.list ts us) := by
    intro ts
    induction ts with
    | nil => exact fun _ => ⟨[], .nil⟩
    | cons t ts ih =>
      intro hP
      obtain ⟨u, hu⟩ := hP t (List.mem_cons_self ..)
      obtain ⟨us, hus⟩ := ih fun x hx => hP x (List.mem_cons_of_mem _ hx)
      exact ⟨u :: us, .cons hu hus⟩
  have hone : ∀ (m : Nat) (a : T), (∀ x ∈ vT a, ∀ u, st[x]? = some (some u) → rk x < m) → (okU N a) → ∃ u, Res st (.one a u) := by
    intro m
    induction m using Nat.strongRecOn with
    | _ m ihm =>
      refine T.ind fun k n s ks ih hr ho => ?_
      cases hl : look st (.mk k n s ks) with
      | some u =>
        obtain ⟨hk, hs⟩ := look_some.1 hl
        have hlt := hr _ (by rw [vT_var hk]; exact List.mem_singleton.2 rfl) u hs
        obtain ⟨u', hu⟩ := ihm _ hlt u (fun x hx _ _ => hrk _ _ hs x hx) (h.look_ok hl).1
        refine ⟨u', ?_⟩
        cases hu with
        | one h1 h2 => exact .one (.step hl h1) h2
      | none =>
        by_cases hk : (T.mk k n s ks).kind = 1
        · have := (ho.var hk).2.2.2
          have e : ks = [] := this
          subst e
          exact ⟨_, .one (.stop hl) .nil⟩
        · obtain ⟨us, hus⟩ := hlist ks fun a ha => ih a ha (fun x hx u hs => hr x (by rw [vT_kids hk]; exact vTL_mem.2 ⟨a, ha, hx⟩) u hs) (okUL_mem ho.kids a ha)
          exact ⟨_, .one (.stop hl) hus⟩
  have hM : ∀ l : List Nat, ∃ M, ∀ m ∈ l, rk m < M := by
    intro l
    induction l with
    | nil => exact ⟨0, by simp⟩
    | cons x l ih =>
      obtain ⟨M, hM⟩ := ih
      refine ⟨M + rk x + 1, fun m hm => ?_⟩
      rcases List.mem_cons.1 hm with rfl | hm
      · omega
      · have := hM m hm; omega
  obtain ⟨M, hM⟩ := hM (vT t)
  exact hone M t (fun x hx _ _ => hM x hx) ho

end Go.Proofs.YtaaihodhhacapaaGreat
