/- laws.toTerm and its kin: a copy in memory of its own. -/
import Derived.Test.YtnoieadimkgjcaaTree
import Derived.Test.YtnoieadimkgjcaaFacts
import Derived.Test.YtnoieadimkgjcaaSh0
namespace Go.Proofs.Ytnoieadimkgjcaa
open Go Go.RowKit
attribute [local irreducible] Run CondV GuardV LoadV

mutual
def wT : T → Nat
  | .mk _ _ s ks => s.size + ks.length + wL ks
def wL : List T → Nat
  | [] => 0
  | t :: ts => wT t + wL ts
end
theorem wL_mem : ∀ {ts : List T} {t : T}, t ∈ ts → wT t ≤ wL ts
  | x :: xs, t, h => by
    simp only [wL]
    rcases List.mem_cons.1 h with rfl | h
    · omega
    · have := wL_mem h; omega

abbrev PostS {α : Type} (k : Nat) (R : Heaplet → List Value → α → Prop) (S : Store) (xs : List α) : Value → List Item → Store → Prop :=
  fun v I' S' => S' = S ∧ ∃ L, I' = blks L ∧ TrSl k R L v xs
abbrev PostT (S : Store) (t : T) : Value → List Item → Store → Prop := fun v I' S' => S' = S ∧ ∃ cs L, v = .agg cs.toArray ∧ I' = blks L ∧ TrT L cs t

theorem toTermS_of {ts : List T} (ih : ∀ t ∈ ts, ∀ (S : Store) (cs : List Value), RdT S cs t → wT t ≤ 1048576 → Tri Try.prog n_l_toTerm [.agg cs.toArray] [] S (PostT S t))
    {S : Store} {v : Value} (h : RdSl S 4 (RdT S) v ts) (hw : ts.length + wL ts ≤ 1048576) : Tri Try.prog n_l_toTermS [v] [] S (PostS 4 TrT S ts) := by
  intro w hI
  refine calls_l_toTermS ?_
  unfold sh_l_toTermS
  refine r_lenSl h sl_SlTerm ?_
  refine r_makeSlice hI mk_SiTerm (by omega) (by omega) fun b c w' hc hI => ?_
  refine ⟨fun i w' => ∃ (k : Nat) (c : Array Value) (Ls : List Heaplet), k ≤ ts.length ∧ i = .int .i64 k ∧ c.size = ts.length * 4 ∧ Part 4 TrT c Ls (ts.take k) ∧ Inv w [] (blks ((b, .cells c t_iTerm) :: Ls.flatten)) S w',
    fun i _ => ts.length - (intOf i).toNat, ⟨0, c, [], Nat.zero_le _, rfl, hc, Part.nil _ _ _, hI⟩, ?_⟩
  intro t4 _ _ _ _ _ _ _ _ _ _ _ _ _ _ w'
  rintro ⟨k, c, Ls, hk, rfl, hc, hp, hI⟩
  refine r_lenSl h sl_SlTerm ?_
  refine r_lss ?_
  refine condP (fun hki => ?_) (fun hki => ?_)
  · have hk' : k < ts.length := by omega
    have htl : (ts.take k).length = k := by simp; omega
    refine r_elem hI h sl_SlTerm ag_lTerm hk' (fun _ _ => RdT.length) fun cs hcs => ?_
    have hm := List.getElem_mem hk'
    have hwm := wL_mem hm
    refine Run.call0 fn_l_toTerm nm_l_toTerm hI (ih _ hm S cs hcs (by omega)) fun v' I' S' w' => ?_
    rintro ⟨rfl, cs', L, rfl, rfl, hT⟩ _ hI
    refine r_elemSt hI 0 (k := 4) (by rfl) sl_SiTerm ag_iTerm hk' (by omega) (by simp [Value.cells, hT.length]) (by simpa [Value.cells] using hT.one) fun w' hI => ?_
    refine r_add (by omega) ?_
    refine ⟨⟨k + 1, putCells c (k * 4) cs', Ls ++ [L], hk', rfl, ?_, ?_, ?_⟩, by simp [intOf]; omega⟩
    · rw [putCells_size _ _ _ (by rw [hT.length]; omega)]; exact hc
    · have := hp.snoc hT hT.length (by rw [htl]; omega)
      rw [htl] at this
      rw [List.take_succ_eq_append_getElem hk']
      exact this
    · simp only [List.flatten_append, List.flatten_cons, List.flatten_nil, List.append_nil]
      simpa [blks, Value.cells] using hI
  · have : k = ts.length := by omega
    subst this
    rw [List.take_length] at hp
    exact ⟨_, _, _, rfl, hI, Ext.refl _ _ _, rfl, _, rfl, hp.sl (Nat.le_refl _) (by simp only [maxLen]; omega) (by omega)⟩

theorem toTerm_calls : ∀ (t : T) (S : Store) (cs : List Value), RdT S cs t → wT t ≤ 1048576 → Tri Try.prog n_l_toTerm [.agg cs.toArray] [] S (PostT S t) := by
  refine T.ind fun k n s ks ih S cs h hw => ?_
  intro w hI
  obtain ⟨kv, rfl, h1, h2, hs, hks⟩ := RdT.iff.1 h
  simp only [T.name, T.kids, T.kind, T.n] at h1 h2 hs hks ⊢
  simp only [wT] at hw
  refine calls_l_toTerm ?_
  unfold sh_l_toTerm
  refine r_box hI fun b1 w' hI => ?_
  refine r_alloc hI zo_iTerm fun b2 w' hI => ?_
  refine r_alloc hI zo_iTerm fun b3 w' hI => ?_
  refine r_fieldL hI 0 rfl fo_lTerm_0 sc_int rfl ?_
  refine r_fieldSt hI 2 rfl fo_iTerm_0 sc_int rfl rfl rfl fun w' hI => ?_
  refine r_fieldL hI 0 rfl fo_lTerm_1 sc_int rfl ?_
  refine r_fieldSt hI 2 rfl fo_iTerm_1 sc_int rfl rfl rfl fun w' hI => ?_
  refine r_fieldL hI 0 rfl fo_lTerm_2 sc_string rfl ?_
  refine r_fieldSt hI 2 rfl fo_iTerm_2 sc_string rfl rfl rfl fun w' hI => ?_
  refine r_fieldL hI 0 rfl fo_lTerm_3 sc_SlTerm rfl ?_
  refine Run.call0 fn_l_toTermS nm_l_toTermS hI (toTermS_of ih hks (by omega)) fun v' I' S' w' => ?_
  rintro ⟨rfl, L, rfl, hT⟩ _ hI
  have hv : v'.cells = #[v'] ∧ v'.oneCell' = true := by obtain ⟨a, cap, rfl, _⟩ := hT; exact ⟨rfl, rfl⟩
  refine r_fieldSt hI 2 rfl fo_iTerm_3 sc_SiTerm rfl hv.1 hv.2 fun w' hI => ?_
  refine r_loadW hI 2 ag_iTerm rfl rfl ?_
  refine r_storeW hI 1 rfl ag_iTerm rfl rfl ?_ fun w' hI => ?_
  · intro u hu
    have hu' : u ∈ ([.int .i64 k, .int .i64 n, .string s, v'] : List Value) := hu
    simp at hu'
    rcases hu' with rfl | rfl | rfl | rfl <;> first | rfl | exact hv.2
  refine loadV_W hI 1 ag_iTerm rfl rfl ?_
  refine ⟨_, _, _, rfl, hI.sub (List.sublist_append_right [_, _, _] (blks L)), Ext.refl _ _ _, rfl, [.int .i64 k, .int .i64 n, .string s, v'], L, rfl, rfl, TrT.iff.2 ⟨v', rfl, h1, h2, hs, hT⟩⟩
theorem toTermS_calls {ts : List T} {S : Store} {v : Value} (h : RdSl S 4 (RdT S) v ts) (hw : ts.length + wL ts ≤ 1048576) : Tri Try.prog n_l_toTermS [v] [] S (PostS 4 TrT S ts) :=
  toTermS_of (fun t _ => toTerm_calls t) h hw

def wC (c : C) : Nat := wT c.head + c.body.length + wL c.body
def wP : List C → Nat
  | [] => 0
  | c :: cs => wC c + wP cs
theorem wP_mem : ∀ {cs : List C} {c : C}, c ∈ cs → wC c ≤ wP cs
  | x :: xs, c, h => by
    simp only [wP]
    rcases List.mem_cons.1 h with rfl | h
    · omega
    · have := wP_mem h; omega
abbrev PostC (S : Store) (c : C) : Value → List Item → Store → Prop := fun v I' S' => S' = S ∧ ∃ cs L, v = .agg cs.toArray ∧ I' = blks L ∧ TrC L cs c
theorem toClause_calls {c : C} {S : Store} {cs : List Value} (h : RdC S cs c) (hw : wC c ≤ 1048576) : Tri Try.prog n_l_toClause [.agg cs.toArray] [] S (PostC S c) := by
  intro w hI
  obtain ⟨hd, ks, rfl, h1, h2⟩ := h
  obtain ⟨kv, rfl, g1, g2, g3, g4⟩ := RdT.iff.1 h1
  unfold wC at hw
  refine calls_l_toClause ?_
  unfold sh_l_toClause
  refine r_box hI fun b1 w' hI => ?_
  refine r_alloc hI zo_iClause fun b2 w' hI => ?_
  refine r_alloc hI zo_iClause fun b3 w' hI => ?_
  refine r_field fo_lClause_0 ?_
  refine r_loadLA hI 0 [.int .i64 c.head.kind, .int .i64 c.head.n, .string c.head.name, kv] ag_lTerm rfl rfl ?_ ?_
  · intro j v hj
    match j with
    | 0 | 1 | 2 | 3 => exact hj
    | j + 4 => simp at hj
  refine Run.call0 fn_l_toTerm nm_l_toTerm hI (toTerm_calls _ S _ h1 (by omega)) fun v' I' S' w' => ?_
  rintro ⟨rfl, cs1, L1, rfl, rfl, hT1⟩ _ hI
  obtain ⟨kv1, rfl, e1, e2, e3, e4⟩ := TrT.iff.1 hT1
  have hv1 : kv1.oneCell' = true := by obtain ⟨a, cap, rfl, _⟩ := e4; rfl
  refine r_field fo_iClause_0 ?_
  refine r_storeB hI 2 rfl ag_iTerm rfl rfl ?_ fun w' hI => ?_
  · intro u hu
    simp [Value.cells] at hu
    rcases hu with rfl | rfl | rfl | rfl <;> first | rfl | exact hv1
  refine r_fieldL hI 0 rfl fo_lClause_1 sc_SlTerm rfl ?_
  refine Run.call0 fn_l_toTermS nm_l_toTermS hI (toTermS_calls h2 (by omega)) fun v' I' S' w' => ?_
  rintro ⟨rfl, L2, rfl, hT2⟩ _ hI
  have hv : v'.cells = #[v'] ∧ v'.oneCell' = true := by obtain ⟨a, cap, rfl, _⟩ := hT2; exact ⟨rfl, rfl⟩
  refine r_fieldSt hI 2 rfl fo_iClause_1 sc_SiTerm rfl hv.1 hv.2 fun w' hI => ?_
  refine r_loadW hI 2 ag_iClause rfl rfl ?_
  refine r_storeW hI 1 rfl ag_iClause rfl rfl ?_ fun w' hI => ?_
  · intro u hu
    have hu' : u ∈ ([.int .i64 c.head.kind, .int .i64 c.head.n, .string c.head.name, kv1, v'] : List Value) := hu
    simp at hu'
    rcases hu' with rfl | rfl | rfl | rfl | rfl <;> first | rfl | exact hv1 | exact hv.2
  refine loadV_W hI 1 ag_iClause rfl rfl ?_
  have hI' := hI.sub (List.sublist_append_right [_, _, _] (blks L1 ++ blks L2))
  rw [← blks_append] at hI'
  exact ⟨_, _, _, rfl, hI', Ext.refl _ _ _, rfl, [.int .i64 c.head.kind, .int .i64 c.head.n, .string c.head.name, kv1, v'], L1 ++ L2, rfl, rfl,
    [.int .i64 c.head.kind, .int .i64 c.head.n, .string c.head.name, kv1], v', L1, L2, rfl, rfl, hT1, hT2⟩
theorem toClauseS_calls {p : List C} {S : Store} {v : Value} (h : RdSl S 5 (RdC S) v p) (hw : p.length + wP p ≤ 1048576) : Tri Try.prog n_l_toClauseS [v] [] S (PostS 5 TrC S p) := by
  intro w hI
  refine calls_l_toClauseS ?_
  unfold sh_l_toClauseS
  refine r_lenSl h sl_SlClause ?_
  refine r_makeSlice hI mk_SiClause (by omega) (by omega) fun b c w' hc hI => ?_
  refine ⟨fun i w' => ∃ (k : Nat) (c : Array Value) (Ls : List Heaplet), k ≤ p.length ∧ i = .int .i64 k ∧ c.size = p.length * 5 ∧ Part 5 TrC c Ls (p.take k) ∧ Inv w [] (blks ((b, .cells c t_iClause) :: Ls.flatten)) S w',
    fun i _ => p.length - (intOf i).toNat, ⟨0, c, [], Nat.zero_le _, rfl, hc, Part.nil _ _ _, hI⟩, ?_⟩
  intro t4 _ _ _ _ _ _ _ _ _ _ _ _ _ _ w'
  rintro ⟨k, c, Ls, hk, rfl, hc, hp, hI⟩
  refine r_lenSl h sl_SlClause ?_
  refine r_lss ?_
  refine condP (fun hki => ?_) (fun hki => ?_)
  · have hk' : k < p.length := by omega
    have htl : (p.take k).length = k := by simp; omega
    refine r_elem hI h sl_SlClause ag_lClause hk' (fun _ _ => RdC.length) fun cs hcs => ?_
    have hwm := wP_mem (List.getElem_mem hk')
    refine Run.call0 fn_l_toClause nm_l_toClause hI (toClause_calls hcs (by omega)) fun v' I' S' w' => ?_
    rintro ⟨rfl, cs', L, rfl, rfl, hT⟩ _ hI
    refine r_elemSt hI 0 (k := 5) (by rfl) sl_SiClause ag_iClause hk' (by omega) (by simp [Value.cells, hT.length]) (by simpa [Value.cells] using hT.one) fun w' hI => ?_
    refine r_add (by omega) ?_
    refine ⟨⟨k + 1, putCells c (k * 5) cs', Ls ++ [L], hk', rfl, ?_, ?_, ?_⟩, by simp [intOf]; omega⟩
    · rw [putCells_size _ _ _ (by rw [hT.length]; omega)]; exact hc
    · have := hp.snoc hT hT.length (by rw [htl]; omega)
      rw [htl] at this
      rw [List.take_succ_eq_append_getElem hk']
      exact this
    · simp only [List.flatten_append, List.flatten_cons, List.flatten_nil, List.append_nil]
      simpa [blks, Value.cells] using hI
  · have : k = p.length := by omega
    subst this
    rw [List.take_length] at hp
    exact ⟨_, _, _, rfl, hI, Ext.refl _ _ _, rfl, _, rfl, hp.sl (Nat.le_refl _) (by simp only [maxLen]; omega) (by omega)⟩

end Go.Proofs.Ytnoieadimkgjcaa
