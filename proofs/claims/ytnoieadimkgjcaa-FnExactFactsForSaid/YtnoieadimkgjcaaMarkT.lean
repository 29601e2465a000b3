/- The laws' marks, written into trees of the function's own. -/
import Derived.Test.YtnoieadimkgjcaaMark
import Derived.Test.YtnoieadimkgjcaaVars
namespace Go.Proofs.Ytnoieadimkgjcaa
open Go Go.RowKit

theorem cellsAt_put1 {c : Array Value} {p k j : Nat} {v : Value} (hj : j < k) (hf : p + k ≤ c.size) : cellsAt (putCells c (p + j) [v]) p k = (cellsAt c p k).set j v := by
  apply List.ext_getElem?
  intro i
  simp only [cellsAt, putCells, List.getElem?_take, List.getElem?_drop, List.getElem?_set]
  by_cases hi : i < k
  · rw [if_pos hi]
    simp only [List.getElem?_append, List.length_append, List.length_take, Array.length_toList, List.length_singleton, List.getElem?_take, List.getElem?_drop]
    have e1 : min (p + j) c.size = p + j := by omega
    rw [e1]
    by_cases h1 : j = i
    · subst h1
      rw [if_pos rfl, if_pos (by omega), if_neg (by omega), if_pos (by rw [List.length_drop, Array.length_toList]; omega)]
      simp
    · rw [if_neg h1]
      by_cases h2 : p + i < p + j
      · rw [if_pos (by omega), if_pos h2, if_pos h2, if_pos hi]
      · rw [if_neg (by omega), if_pos hi]
        congr 1
        omega
  · rw [if_neg hi]
    by_cases h1 : j = i
    · omega
    · rw [if_neg h1, if_neg hi]
theorem Part.upd {α : Type} {k : Nat} {R : Heaplet → List Value → α → Prop} {c c' : Array Value} {Ls : List Heaplet} {xs : List α} (h : Part k R c Ls xs) {i : Nat} {L' : Heaplet} {x : α} (hx : R L' (cellsAt c' (i * k) k) x)
    (hne : ∀ j, j ≠ i → cellsAt c' (j * k) k = cellsAt c (j * k) k) : Part k R c' (Ls.set i L') (xs.set i x) := by
  refine ⟨by simp [h.1], fun j h1 h2 => ?_⟩
  by_cases e : i = j
  · subst e
    rw [List.getElem_set_self, List.getElem_set_self]
    exact hx
  · rw [List.getElem_set_ne e, List.getElem_set_ne e, hne j fun e' => e e'.symm]
    exact h.2 j (by simpa using h1) (by simpa using h2)
theorem flat_pull {cur : List Heaplet} {j : Nat} (h : j < cur.length) : List.Perm (blks cur.flatten) (blks (cur.take j ++ cur.drop (j + 1)).flatten ++ blks cur[j]) := by
  have e : cur.flatten = (cur.take j).flatten ++ (cur[j] ++ (cur.drop (j + 1)).flatten) := by
    have h1 := List.take_append_drop j cur
    rw [List.drop_eq_getElem_cons h] at h1
    have h3 := congrArg List.flatten h1
    rw [List.flatten_append, List.flatten_cons] at h3
    exact h3.symm
  rw [e, List.flatten_append, blks_append, blks_append, blks_append, List.append_assoc]
  exact List.Perm.append_left _ List.perm_append_comm
theorem flat_set {cur : List Heaplet} {j : Nat} (h : j < cur.length) (M : Heaplet) : List.Perm (blks (cur.set j M).flatten) (blks (cur.take j ++ cur.drop (j + 1)).flatten ++ blks M) := by
  have e : (cur.set j M).flatten = (cur.take j).flatten ++ (M ++ (cur.drop (j + 1)).flatten) := by
    rw [List.set_eq_take_append_cons_drop, if_pos h]
    simp
  rw [e, List.flatten_append, blks_append, blks_append, blks_append, List.append_assoc]
  exact List.Perm.append_left _ List.perm_append_comm

mutual
def mkT : T → Int → T × Int
  | .mk _ _ _ ks, k => (.mk k (k + 1) (markS (k + 2)) (mkL ks (k + 3)).1, (mkL ks (k + 3)).2)
def mkL : List T → Int → List T × Int
  | [], k => ([], k)
  | t :: ts, k => ((mkT t k).1 :: (mkL ts (mkT t k).2).1, (mkL ts (mkT t k).2).2)
end
mutual
theorem mkT_end : ∀ (t : T) (k : Int), (mkT t k).2 = k + 3 * cntT t
  | .mk _ _ _ ks, k => by
    rw [mkT, mkL_end ks (k + 3), show cntT (T.mk _ _ _ ks) = 1 + cntL ks from rfl]
    omega
theorem mkL_end : ∀ (ts : List T) (k : Int), (mkL ts k).2 = k + 3 * cntL ts
  | [], k => by simp [mkL, cntL]
  | t :: ts, k => by
    rw [mkL]
    show (mkL ts (mkT t k).2).2 = _
    rw [mkL_end ts, mkT_end t k, show cntL (t :: ts) = cntT t + cntL ts from rfl]
    omega
end
theorem mkL_drop (ts : List T) (k : Int) (j : Nat) (h : j < ts.length) : mkL (ts.drop j) k = ((mkT ts[j] k).1 :: (mkL (ts.drop (j + 1)) (mkT ts[j] k).2).1, (mkL (ts.drop (j + 1)) (mkT ts[j] k).2).2) := by
  rw [List.drop_eq_getElem_cons h, mkL]
theorem mkT_eq (t : T) (k : Int) : mkT t k = (.mk k (k + 1) (markS (k + 2)) (mkL t.kids (k + 3)).1, (mkL t.kids (k + 3)).2) := by
  cases t; rw [mkT]; rfl
theorem mkL_len : ∀ (ts : List T) (k : Int), (mkL ts k).1.length = ts.length
  | [], k => rfl
  | t :: ts, k => by rw [mkL]; simp [mkL_len ts]

def MarkOk (ts : List T) : Prop := ∀ (S : Store) (L : Heaplet) (v : Value) (k : Int), TrSl 4 TrT L v ts → 0 ≤ k → k + 3 * cntL ts ≤ 4611686018427387904 →
  Tri Try.prog n_l_markTermS [v, .int .i64 k] (blks L) S fun r I' S' => S' = S ∧ r = .int .i64 (mkL ts k).2 ∧ ∃ L', I' = blks L' ∧ TrSl 4 TrT L' v (mkL ts k).1
section
attribute [local irreducible] Run CondV GuardV LoadV
theorem markTermS_of {ts : List T} (ih : ∀ t ∈ ts, MarkOk t.kids) : MarkOk ts := by
  intro S L v k hT hk0 hk w hI
  obtain ⟨a, cap, rfl, hl, hc, hT⟩ := hT
  refine calls_l_markTermS ?_
  unfold sh_l_markTermS
  rcases hT with ⟨rfl, rfl⟩ | ⟨b, c, E, Ls, rfl, rfl, hLs, hsz, hT⟩
  · refine ⟨fun i m w' => i = .int .i64 0 ∧ m = .int .i64 k ∧ Inv w [] [] S w', fun _ _ _ => 0, ⟨rfl, rfl, hI⟩, ?_⟩
    intro t5 _ _ _ _ _ _ _ _ _ _ _ _ _ _ _ _ _ _ _ _ _ _ _ _ t1 _ _ _ _ _ _ _ _ _ _ _ w'
    rintro ⟨rfl, rfl, hI⟩
    refine r_len sl_SiTerm ?_
    refine r_lss ?_
    refine condP (fun h => by simp at h) (fun _ => ?_)
    exact ⟨_, _, _, rfl, hI, Ext.refl _ _ _, rfl, by rw [mkL], [], rfl, TrSl.nil hc⟩
  · obtain ⟨X, hX⟩ : ∃ X, X = feet (blks ((b, .cells c E) :: Ls.flatten)) := ⟨_, rfl⟩
    rw [← hX] at hI ⊢
    simp only [maxLen] at hc
    refine ⟨fun i m w' => ∃ (j : Nat) (c' : Array Value) (cur : List Heaplet) (m' : Int) (dn : List T), j ≤ ts.length ∧ i = .int .i64 j ∧ m = .int .i64 m' ∧ dn.length = j ∧ c'.size = c.size ∧ Part 4 TrT c' cur (dn ++ ts.drop j) ∧
        dn ++ (mkL (ts.drop j) m').1 = (mkL ts k).1 ∧ (mkL (ts.drop j) m').2 = (mkL ts k).2 ∧ 0 ≤ m' ∧ m' + 3 * cntL (ts.drop j) ≤ 4611686018427387904 ∧ Inv w X (blks ((b, .cells c' E) :: cur.flatten)) S w',
      fun i _ _ => ts.length - (intOf i).toNat, ⟨0, c, Ls, k, [], Nat.zero_le _, rfl, rfl, rfl, rfl, ⟨hLs, hT⟩, rfl, rfl, hk0, hk, hI⟩, ?_⟩
    intro t5 _ _ _ _ _ _ _ _ _ _ _ _ _ _ _ _ _ _ _ _ _ _ _ _ t1 _ _ _ _ _ _ _ _ _ _ _ w'
    rintro ⟨j, c', cur, m, dn, hj, rfl, rfl, hdn, hcs, hP, hr1, hr2, hm0, hm, hI⟩
    refine r_len sl_SiTerm ?_
    refine r_lss ?_
    refine condP (fun hji => ?_) (fun hji => ?_)
    · have hj' : j < ts.length := by omega
      have hpl : (dn ++ ts.drop j).length = ts.length := by simp; omega
      have hcl : cur.length = ts.length := by rw [hP.1, hpl]
      have hjc : j < cur.length := by omega
      have hge : (dn ++ ts.drop j)[j]'(by omega) = ts[j] := by
        rw [List.getElem_append_right (by omega)]
        simp [hdn]
      have hTj := hP.2 j (by omega) hjc
      rw [hge] at hTj
      obtain ⟨kv, hcell, _, _, _, hkT⟩ := TrT.iff.1 hTj
      have hkv : kv.oneCell' = true ∧ kv.cells = #[kv] := by obtain ⟨a, cap', rfl, _⟩ := hkT; exact ⟨rfl, rfl⟩
      have hfit : j * 4 + 4 ≤ c'.size := by
        have : (j + 1) * 4 ≤ cap * 4 := Nat.mul_le_mul_right 4 (by omega)
        omega
      rw [mkL_drop ts m j hj'] at hr1 hr2
      rw [cntL_split ts j hj'] at hm
      have hcn := cntL_pos (ts.drop (j + 1))
      have hcm : cntT ts[j] = 1 + cntL ts[j].kids := by
        cases ts[j]; rfl
      have hck := cntL_pos ts[j].kids
      obtain ⟨c1, hc1⟩ : ∃ c1, c1 = putCells c' (j * 4 + 0) [.int .i64 m] := ⟨_, rfl⟩
      obtain ⟨c2, hc2⟩ : ∃ c2, c2 = putCells c1 (j * 4 + 1) [.int .i64 (m + 1)] := ⟨_, rfl⟩
      obtain ⟨c3, hc3⟩ : ∃ c3, c3 = putCells c2 (j * 4 + 2) [.string (markS (m + 2))] := ⟨_, rfl⟩
      have hs1 : c1.size = c'.size := by rw [hc1]; exact putCells_size _ _ _ (by simp; omega)
      have hs2 : c2.size = c'.size := by rw [hc2]; exact (putCells_size _ _ _ (by simp; omega)).trans hs1
      have hs3 : c3.size = c'.size := by rw [hc3]; exact (putCells_size _ _ _ (by simp; omega)).trans hs2
      refine r_indexAddr sl_SiTerm hj' ?_
      refine r_field fo_iTerm_0 ?_
      rw [Nat.zero_add]
      refine r_store hI 0 (n := 1) rfl (by decide +kernel) rfl (by omega) (by simp [Value.cells, Value.oneCell']) fun w' hI => ?_
      have hI : Inv w X (.blk b (.cells c1 E) :: blks cur.flatten) S w' := by rw [hc1]; exact hI
      refine r_add (by omega) ?_
      refine r_indexAddr sl_SiTerm hj' ?_
      refine r_field fo_iTerm_1 ?_
      rw [Nat.zero_add]
      refine r_store hI 0 (n := 1) rfl (by decide +kernel) rfl (by omega) (by simp [Value.cells, Value.oneCell']) fun w' hI => ?_
      have hI : Inv w X (.blk b (.cells c2 E) :: blks cur.flatten) S w' := by rw [hc2]; exact hI
      refine r_add (by omega) ?_
      have e2 : m + 1 + 1 = m + 2 := by omega
      rw [e2]
      refine Run.callPure fn_l_markText nm_l_markText hI (markText_calls _ S (by omega)) fun w' hI => ?_
      refine r_indexAddr sl_SiTerm hj' ?_
      refine r_field fo_iTerm_2 ?_
      rw [Nat.zero_add]
      refine r_store hI 0 (n := 1) rfl (by decide +kernel) rfl (by omega) (by simp [Value.cells, Value.oneCell']) fun w' hI => ?_
      have hI : Inv w X (.blk b (.cells c3 E) :: blks cur.flatten) S w' := by rw [hc3]; exact hI
      refine r_add (by omega) ?_
      refine r_indexAddr sl_SiTerm hj' ?_
      refine r_field fo_iTerm_3 ?_
      rw [Nat.zero_add]
      have hcc : cellsAt c3 (j * 4) 4 = [.int .i64 m, .int .i64 (m + 1), .string (markS (m + 2)), kv] := by
        rw [hc3, cellsAt_put1 (by omega) (by omega), hc2, cellsAt_put1 (by omega) (by omega), hc1, cellsAt_put1 (by omega) (by omega), hcell]
        rfl
      have hne : ∀ i, i ≠ j → cellsAt c3 (i * 4) 4 = cellsAt c' (i * 4) 4 := by
        intro i hi
        have : i * 4 + 4 ≤ j * 4 ∨ j * 4 + 4 ≤ i * 4 := by omega
        rw [hc3, cellsAt_put_ne (by simp; omega) (by simp; omega), hc2, cellsAt_put_ne (by simp; omega) (by simp; omega), hc1, cellsAt_put_ne (by simp; omega) (by simp; omega)]
      refine r_load sc_SiTerm (by rw [hI.cellL (i := 0) rfl]; exact cellsAt_get hcc 3 _ rfl) ?_
      have hI := hI.perm (M := (.blk b (.cells c3 E) :: blks (cur.take j ++ cur.drop (j + 1)).flatten) ++ blks cur[j]) ((flat_pull hjc).symm.cons _)
      have e3 : m + 2 + 1 = m + 3 := by omega
      rw [e3]
      refine Run.call (A := .blk b (.cells c3 E) :: blks (cur.take j ++ cur.drop (j + 1)).flatten) fn_l_markTermS nm_l_markTermS hI (ih _ (List.getElem_mem hj') S cur[j] kv (m + 3) hkT (by omega) (by omega)) fun v' I' S' w' => ?_
      rintro ⟨rfl, rfl, L', rfl, hT'⟩ _ hI
      have hI : Inv w X (blks ((b, .cells c3 E) :: (cur.set j L').flatten)) S' w' := hI.perm ((flat_set hjc L').cons _)
      refine r_add (by omega) ?_
      rw [mkT_eq] at hr1 hr2
      refine ⟨⟨j + 1, c3, cur.set j L', _, dn ++ [.mk m (m + 1) (markS (m + 2)) (mkL ts[j].kids (m + 3)).1], hj', rfl, rfl, by simp [hdn], by omega, ?_, ?_, hr2, ?_, ?_, hI⟩, by simp [intOf]; omega⟩
      · have hnew : TrT L' (cellsAt c3 (j * 4) 4) (.mk m (m + 1) (markS (m + 2)) (mkL ts[j].kids (m + 3)).1) :=
          TrT.iff.2 ⟨kv, hcc, ⟨by simp only [T.kind]; omega, by simp only [T.kind]; omega⟩, ⟨by simp only [T.n]; omega, by simp only [T.n]; omega⟩, markS_size _ (by omega), hT'⟩
        have := hP.upd hnew hne
        have e : (dn ++ ts.drop j).set j (.mk m (m + 1) (markS (m + 2)) (mkL ts[j].kids (m + 3)).1) = (dn ++ [.mk m (m + 1) (markS (m + 2)) (mkL ts[j].kids (m + 3)).1]) ++ ts.drop (j + 1) := by
          rw [List.set_append, if_neg (by omega), List.drop_eq_getElem_cons hj', hdn, Nat.sub_self, List.append_assoc]
          rfl
        rw [e] at this
        exact this
      · rw [← hr1]
        simp
      · rw [mkL_end]; omega
      · rw [mkL_end]; omega
    · have : j = ts.length := by omega
      subst this
      rw [List.drop_length] at hr1 hr2 hP
      simp only [mkL, List.append_nil] at hr1 hr2 hP
      subst hr1 hr2
      have hl' := mkL_len ts k
      refine ⟨_, _, _, rfl, hI, Ext.refl _ _ _, rfl, rfl, _, rfl, ?_⟩
      rw [← hl']
      exact hP.sl (by omega) (by simp only [maxLen]; omega) (by omega)
theorem markKids_ok : ∀ t : T, MarkOk t.kids := by
  refine T.ind fun k n s ks ih => ?_
  exact markTermS_of ih
theorem markTermS_ok (ts : List T) : MarkOk ts := markTermS_of fun t _ => markKids_ok t
end

end Go.Proofs.Ytnoieadimkgjcaa
