/- The laws' marks, written into clauses of the function's own. -/
import Derived.Test.YtnoieadimkgjcaaMarkT
namespace Go.Proofs.Ytnoieadimkgjcaa
open Go Go.RowKit

def mkC (c : C) (k : Int) : C × Int := (⟨.mk k (k + 1) (markS (k + 2)) (mkL c.head.kids (k + 3)).1, (mkL c.body (mkL c.head.kids (k + 3)).2).1⟩, (mkL c.body (mkL c.head.kids (k + 3)).2).2)
def mkP : List C → Int → List C × Int
  | [], k => ([], k)
  | c :: cs, k => ((mkC c k).1 :: (mkP cs (mkC c k).2).1, (mkP cs (mkC c k).2).2)
def cntC (c : C) : Int := cntT c.head + cntL c.body
def cntP : List C → Int
  | [] => 0
  | c :: cs => cntC c + cntP cs
theorem cntC_eq (c : C) : cntC c = 1 + cntL c.head.kids + cntL c.body := by
  obtain ⟨⟨k, n, s, ks⟩, b⟩ := c
  rfl
theorem cntC_pos (c : C) : 0 ≤ cntC c := by
  have := cntL_pos c.head.kids
  have := cntL_pos c.body
  rw [cntC_eq]
  omega
theorem cntP_pos : ∀ p : List C, 0 ≤ cntP p
  | [] => Int.le_refl _
  | c :: p => by
    have := cntP_pos p
    have := cntC_pos c
    rw [cntP]; omega
theorem cntC_wC (c : C) : cntC c ≤ 1 + (wC c : Int) := by
  obtain ⟨⟨k, n, s, ks⟩, b⟩ := c
  rw [cntC_eq]
  have h1 := cnt_wL ks
  have h2 := cnt_wL b
  simp only [wC, wT, T.kids]
  omega
theorem cntP_wP : ∀ p : List C, cntP p ≤ p.length + (wP p : Int)
  | [] => by simp [cntP, wP]
  | c :: p => by
    have := cntP_wP p
    have := cntC_wC c
    rw [cntP, wP, List.length_cons]
    omega
theorem cntP_split (p : List C) (j : Nat) (h : j < p.length) : cntP (p.drop j) = cntC p[j] + cntP (p.drop (j + 1)) := by
  rw [List.drop_eq_getElem_cons h, cntP]
theorem mkC_end (c : C) (k : Int) : (mkC c k).2 = k + 3 * cntC c := by
  rw [mkC, cntC_eq]
  show (mkL c.body (mkL c.head.kids (k + 3)).2).2 = _
  rw [mkL_end, mkL_end]
  omega
theorem mkP_end : ∀ (p : List C) (k : Int), (mkP p k).2 = k + 3 * cntP p
  | [], k => by simp [mkP, cntP]
  | c :: p, k => by
    rw [mkP, cntP]
    show (mkP p (mkC c k).2).2 = _
    rw [mkP_end p, mkC_end]
    omega
theorem mkP_drop (p : List C) (k : Int) (j : Nat) (h : j < p.length) : mkP (p.drop j) k = ((mkC p[j] k).1 :: (mkP (p.drop (j + 1)) (mkC p[j] k).2).1, (mkP (p.drop (j + 1)) (mkC p[j] k).2).2) := by
  rw [List.drop_eq_getElem_cons h, mkP]
theorem mkP_len : ∀ (p : List C) (k : Int), (mkP p k).1.length = p.length
  | [], k => rfl
  | c :: p, k => by rw [mkP]; simp [mkP_len p]

section
attribute [local irreducible] Run CondV GuardV LoadV
theorem markTerm_calls {t : T} {S : Store} {L : Heaplet} {cs : List Value} {k : Int} (hT : TrT L cs t) (hk0 : 0 ≤ k) (hk : k + 3 * cntL t.kids ≤ 4611686018427387904) :
    Tri Try.prog n_l_markTerm [.agg cs.toArray, .int .i64 k] (blks L) S fun r _ S' => S' = S ∧ r = .int .i64 (mkL t.kids k).2 := by
  intro w hI
  obtain ⟨kv, rfl, _, _, _, hkT⟩ := TrT.iff.1 hT
  refine calls_l_markTerm ?_
  unfold sh_l_markTerm
  refine r_box hI fun b1 w' hI => ?_
  have hI := hI.perm (M := [.blk b1 (.cells #[.int .i64 t.kind, .int .i64 t.n, .string t.name, kv] t_iTerm)] ++ blks L) List.perm_append_comm
  refine r_fieldL hI 0 rfl fo_iTerm_3 sc_SiTerm rfl ?_
  refine Run.call (A := [_]) fn_l_markTermS nm_l_markTermS hI (markTermS_ok t.kids S L kv k hkT hk0 hk) fun v' I' S' w' => ?_
  rintro ⟨rfl, rfl, L', rfl, _⟩ _ hI
  exact ⟨_, _, _, rfl, hI, Ext.refl _ _ _, rfl, rfl⟩
theorem TrC.parts {L : Heaplet} {cs : List Value} {c : C} (h : TrC L cs c) : ∃ kv ks L1 L2, cs = [.int .i64 c.head.kind, .int .i64 c.head.n, .string c.head.name, kv, ks] ∧ L = L1 ++ L2 ∧ TrSl 4 TrT L1 kv c.head.kids ∧ TrSl 4 TrT L2 ks c.body := by
  obtain ⟨hd, ks, L1, L2, rfl, rfl, h1, h2⟩ := h
  obtain ⟨kv, rfl, _, _, _, hkT⟩ := TrT.iff.1 h1
  exact ⟨kv, ks, L1, L2, rfl, rfl, hkT, h2⟩
theorem markClauseS_ok {p : List C} {S : Store} {L : Heaplet} {v : Value} {k : Int} (hT : TrSl 5 TrC L v p) (hk0 : 0 ≤ k) (hk : k + 3 * cntP p ≤ 4611686018427387904) :
    Tri Try.prog n_l_markClauseS [v, .int .i64 k] (blks L) S fun r I' S' => S' = S ∧ r = .int .i64 (mkP p k).2 ∧ ∃ L', I' = blks L' ∧ TrSl 5 TrC L' v (mkP p k).1 := by
  intro w hI
  obtain ⟨a, cap, rfl, hl, hc, hT⟩ := hT
  refine calls_l_markClauseS ?_
  unfold sh_l_markClauseS
  rcases hT with ⟨rfl, rfl⟩ | ⟨b, c, E, Ls, rfl, rfl, hLs, hsz, hT⟩
  · refine ⟨fun i m w' => i = .int .i64 0 ∧ m = .int .i64 k ∧ Inv w [] [] S w', fun _ _ _ => 0, ⟨rfl, rfl, hI⟩, ?_⟩
    intro t5 _ _ _ _ _ _ _ _ _ _ _ _ _ _ _ _ _ _ _ _ _ _ _ _ _ _ _ _ _ _ _ _ _ _ t1 _ _ _ _ _ _ _ _ _ _ _ _ w'
    rintro ⟨rfl, rfl, hI⟩
    refine r_len sl_SiClause ?_
    refine r_lss ?_
    refine condP (fun h => by simp at h) (fun _ => ?_)
    exact ⟨_, _, _, rfl, hI, Ext.refl _ _ _, rfl, by rw [mkP], [], rfl, TrSl.nil hc⟩
  · obtain ⟨X, hX⟩ : ∃ X, X = feet (blks ((b, .cells c E) :: Ls.flatten)) := ⟨_, rfl⟩
    rw [← hX] at hI ⊢
    simp only [maxLen] at hc
    refine ⟨fun i m w' => ∃ (j : Nat) (c' : Array Value) (cur : List Heaplet) (m' : Int) (dn : List C), j ≤ p.length ∧ i = .int .i64 j ∧ m = .int .i64 m' ∧ dn.length = j ∧ c'.size = c.size ∧ Part 5 TrC c' cur (dn ++ p.drop j) ∧
        dn ++ (mkP (p.drop j) m').1 = (mkP p k).1 ∧ (mkP (p.drop j) m').2 = (mkP p k).2 ∧ 0 ≤ m' ∧ m' + 3 * cntP (p.drop j) ≤ 4611686018427387904 ∧ Inv w X (blks ((b, .cells c' E) :: cur.flatten)) S w',
      fun i _ _ => p.length - (intOf i).toNat, ⟨0, c, Ls, k, [], Nat.zero_le _, rfl, rfl, rfl, rfl, ⟨hLs, hT⟩, rfl, rfl, hk0, hk, hI⟩, ?_⟩
    intro t5 _ _ _ _ _ _ _ _ _ _ _ _ _ _ _ _ _ _ _ _ _ _ _ _ _ _ _ _ _ _ _ _ _ _ t1 _ _ _ _ _ _ _ _ _ _ _ _ w'
    rintro ⟨j, c', cur, m, dn, hj, rfl, rfl, hdn, hcs, hP, hr1, hr2, hm0, hm, hI⟩
    refine r_len sl_SiClause ?_
    refine r_lss ?_
    refine condP (fun hji => ?_) (fun hji => ?_)
    · have hj' : j < p.length := by omega
      have hpl : (dn ++ p.drop j).length = p.length := by simp; omega
      have hcl : cur.length = p.length := by rw [hP.1, hpl]
      have hjc : j < cur.length := by omega
      have hge : (dn ++ p.drop j)[j]'(by omega) = p[j] := by
        rw [List.getElem_append_right (by omega)]
        simp [hdn]
      have hTj := hP.2 j (by omega) hjc
      rw [hge] at hTj
      obtain ⟨kv, ks, L1, L2, hcell, hLL, hkT, hbT⟩ := hTj.parts
      have hfit : j * 5 + 5 ≤ c'.size := by
        have : (j + 1) * 5 ≤ cap * 5 := Nat.mul_le_mul_right 5 (by omega)
        omega
      rw [mkP_drop p m j hj'] at hr1 hr2
      rw [cntP_split p j hj', cntC_eq] at hm
      have hcn := cntP_pos (p.drop (j + 1))
      have hck := cntL_pos p[j].head.kids
      have hcb := cntL_pos p[j].body
      obtain ⟨c1, hc1⟩ : ∃ c1, c1 = putCells c' (j * 5 + 0) [.int .i64 m] := ⟨_, rfl⟩
      obtain ⟨c2, hc2⟩ : ∃ c2, c2 = putCells c1 (j * 5 + 1) [.int .i64 (m + 1)] := ⟨_, rfl⟩
      obtain ⟨c3, hc3⟩ : ∃ c3, c3 = putCells c2 (j * 5 + 2) [.string (markS (m + 2))] := ⟨_, rfl⟩
      have hs1 : c1.size = c'.size := by rw [hc1]; exact putCells_size _ _ _ (by simp; omega)
      have hs2 : c2.size = c'.size := by rw [hc2]; exact (putCells_size _ _ _ (by simp; omega)).trans hs1
      have hs3 : c3.size = c'.size := by rw [hc3]; exact (putCells_size _ _ _ (by simp; omega)).trans hs2
      refine r_indexAddr sl_SiClause hj' ?_
      refine r_field fo_iClause_0 ?_
      refine r_field fo_iTerm_0 ?_
      rw [Nat.zero_add, Nat.add_zero]
      refine r_store hI 0 (n := 1) rfl (by decide +kernel) rfl (by omega) (by simp [Value.cells, Value.oneCell']) fun w' hI => ?_
      have hI : Inv w X (.blk b (.cells c1 E) :: blks cur.flatten) S w' := by rw [hc1]; exact hI
      refine r_add (by omega) ?_
      refine r_indexAddr sl_SiClause hj' ?_
      refine r_field fo_iClause_0 ?_
      refine r_field fo_iTerm_1 ?_
      rw [Nat.zero_add, Nat.add_zero]
      refine r_store hI 0 (n := 1) rfl (by decide +kernel) rfl (by omega) (by simp [Value.cells, Value.oneCell']) fun w' hI => ?_
      have hI : Inv w X (.blk b (.cells c2 E) :: blks cur.flatten) S w' := by rw [hc2]; exact hI
      refine r_add (by omega) ?_
      have e2 : m + 1 + 1 = m + 2 := by omega
      rw [e2]
      refine Run.callPure fn_l_markText nm_l_markText hI (markText_calls _ S (by omega)) fun w' hI => ?_
      refine r_indexAddr sl_SiClause hj' ?_
      refine r_field fo_iClause_0 ?_
      refine r_field fo_iTerm_2 ?_
      rw [Nat.zero_add, Nat.add_zero]
      refine r_store hI 0 (n := 1) rfl (by decide +kernel) rfl (by omega) (by simp [Value.cells, Value.oneCell']) fun w' hI => ?_
      have hI : Inv w X (.blk b (.cells c3 E) :: blks cur.flatten) S w' := by rw [hc3]; exact hI
      refine r_add (by omega) ?_
      have hcc : cellsAt c3 (j * 5) 5 = [.int .i64 m, .int .i64 (m + 1), .string (markS (m + 2)), kv, ks] := by
        rw [hc3, cellsAt_put1 (by omega) (by omega), hc2, cellsAt_put1 (by omega) (by omega), hc1, cellsAt_put1 (by omega) (by omega), hcell]
        rfl
      have hne : ∀ i, i ≠ j → cellsAt c3 (i * 5) 5 = cellsAt c' (i * 5) 5 := by
        intro i hi
        have : i * 5 + 5 ≤ j * 5 ∨ j * 5 + 5 ≤ i * 5 := by omega
        rw [hc3, cellsAt_put_ne (by simp; omega) (by simp; omega), hc2, cellsAt_put_ne (by simp; omega) (by simp; omega), hc1, cellsAt_put_ne (by simp; omega) (by simp; omega)]
      refine r_indexAddr sl_SiClause hj' ?_
      refine r_field fo_iClause_0 ?_
      refine r_field fo_iTerm_3 ?_
      rw [Nat.zero_add, Nat.add_zero]
      refine r_load sc_SiTerm (by rw [hI.cellL (i := 0) rfl]; exact cellsAt_get hcc 3 _ rfl) ?_
      have e3 : m + 2 + 1 = m + 3 := by omega
      rw [e3]
      have hI := hI.perm (M := (.blk b (.cells c3 E) :: blks (cur.take j ++ cur.drop (j + 1)).flatten) ++ blks cur[j]) ((flat_pull hjc).symm.cons _)
      rw [hLL, blks_append] at hI
      have hI := hI.perm (M := ((.blk b (.cells c3 E) :: blks (cur.take j ++ cur.drop (j + 1)).flatten) ++ blks L2) ++ blks L1) (by rw [List.append_assoc]; exact List.Perm.append_left _ List.perm_append_comm)
      refine Run.call (A := (.blk b (.cells c3 E) :: blks (cur.take j ++ cur.drop (j + 1)).flatten) ++ blks L2) fn_l_markTermS nm_l_markTermS hI (markTermS_ok _ S L1 kv (m + 3) hkT (by omega) (by omega)) fun v' I' S' w' => ?_
      rintro ⟨rfl, rfl, L1', rfl, hT1⟩ _ hI
      have hI := hI.perm (M := ((.blk b (.cells c3 E) :: blks (cur.take j ++ cur.drop (j + 1)).flatten) ++ blks L1') ++ blks L2) (by rw [List.append_assoc, List.append_assoc]; exact List.Perm.append_left _ List.perm_append_comm)
      refine r_indexAddr sl_SiClause hj' ?_
      refine r_field fo_iClause_1 ?_
      rw [Nat.zero_add]
      refine r_load sc_SiTerm (by rw [hI.cellL (i := 0) rfl]; exact cellsAt_get hcc 4 _ rfl) ?_
      have hme := mkL_end p[j].head.kids (m + 3)
      refine Run.call (A := (.blk b (.cells c3 E) :: blks (cur.take j ++ cur.drop (j + 1)).flatten) ++ blks L1') fn_l_markTermS nm_l_markTermS hI (markTermS_ok _ S' L2 ks _ hbT (by omega) (by omega)) fun v' I' S2 w' => ?_
      rintro ⟨rfl, rfl, L2', rfl, hT2⟩ _ hI
      have hI : Inv w X (blks ((b, .cells c3 E) :: (cur.set j (L1' ++ L2')).flatten)) S2 w' := by
        refine hI.perm ?_
        rw [List.append_assoc, ← blks_append]
        exact (flat_set hjc (L1' ++ L2')).cons _
      refine r_add (by omega) ?_
      have hmc : mkC p[j] m = (⟨.mk m (m + 1) (markS (m + 2)) (mkL p[j].head.kids (m + 3)).1, (mkL p[j].body (mkL p[j].head.kids (m + 3)).2).1⟩, (mkL p[j].body (mkL p[j].head.kids (m + 3)).2).2) := rfl
      have hce := mkC_end p[j] m
      rw [cntC_eq] at hce
      have hnew : TrC (L1' ++ L2') (cellsAt c3 (j * 5) 5) (mkC p[j] m).1 := by
        rw [hmc]
        exact ⟨_, ks, L1', L2', hcc, rfl, TrT.iff.2 ⟨kv, rfl, ⟨by simp only [T.kind]; omega, by simp only [T.kind]; omega⟩, ⟨by simp only [T.n]; omega, by simp only [T.n]; omega⟩, markS_size _ (by omega), hT1⟩, hT2⟩
      refine ⟨⟨j + 1, c3, cur.set j (L1' ++ L2'), (mkC p[j] m).2, dn ++ [(mkC p[j] m).1], hj', rfl, rfl, by simp [hdn], by omega, ?_, ?_, hr2, by omega, by omega, hI⟩, by simp [intOf]; omega⟩
      · have := hP.upd hnew hne
        have e : (dn ++ p.drop j).set j (mkC p[j] m).1 = (dn ++ [(mkC p[j] m).1]) ++ p.drop (j + 1) := by
          rw [List.set_append, if_neg (by omega), List.drop_eq_getElem_cons hj', hdn, Nat.sub_self, List.append_assoc]
          rfl
        rw [e] at this
        exact this
      · rw [← hr1]
        simp
    · have : j = p.length := by omega
      subst this
      rw [List.drop_length] at hr1 hr2 hP
      simp only [mkP, List.append_nil] at hr1 hr2 hP
      subst hr1 hr2
      have hl' := mkP_len p k
      refine ⟨_, _, _, rfl, hI, Ext.refl _ _ _, rfl, rfl, _, rfl, ?_⟩
      rw [← hl']
      exact hP.sl (by omega) (by simp only [maxLen]; omega) (by omega)
end

end Go.Proofs.Ytnoieadimkgjcaa
