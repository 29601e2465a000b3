/- The laws' marks, written into trees of the function's own. -/
import Derived.Test.YtaaihodhhacapaaZRs1
import Derived.Laws.StructEq
import Derived.Laws.Tables
namespace Go.Proofs.Ytaaihodhhacapaa
open Go Go.RowKit

theorem cellsAt_put1 {c : Array Value} {p k j : Nat} {v : Value} (hj : j < k) (hf : p + k ≤ c.size) : cellsAt (putCells c (p + j) [v]) p k = (cellsAt c p k).set j v := by
  apply List.ext_getElem?
  intro i
  simp only [cellsAt, putCells, List.getElem?_take, List.getElem?_drop, List.getElem?_set]
  by_cases hi : i < k
  · rw [if_pos hi]
    simp only [List.getElem?_append, List.length_append, List.length_take, Array.length_toList, List.length_singleton, List.getElem?_take, List.getElem?_drop]
    have e1 : min (p + j) c.size = p + j := by omega
    rw [e1]
    by_cases h1 : j = i
    · subst h1
      rw [if_pos rfl, if_pos (by omega), if_neg (by omega), if_pos (by rw [List.length_drop, Array.length_toList]; omega)]
      simp
    · rw [if_neg h1]
      by_cases h2 : p + i < p + j
      · rw [if_pos (by omega), if_pos h2, if_pos h2, if_pos hi]
      · rw [if_neg (by omega), if_pos hi]
        congr 1
        omega
  · rw [if_neg hi]
    by_cases h1 : j = i
    · omega
    · rw [if_neg h1, if_neg hi]
theorem Part.upd {α : Type} {k : Nat} {R : Heaplet → List Value → α → Prop} {c c' : Array Value} {Ls : List Heaplet} {xs : List α} (h : Part k R c Ls xs) {i : Nat} {L' : Heaplet} {x : α} (hx : R L' (cellsAt c' (i * k) k) x)
    (hne : ∀ j, j ≠ i → cellsAt c' (j * k) k = cellsAt c (j * k) k) : Part k R c' (Ls.set i L') (xs.set i x) := by
  refine ⟨by simp [h.1], fun j h1 h2 => ?_⟩
  by_cases e : i = j
  · subst e
    rw [List.getElem_set_self, List.getElem_set_self]
    exact hx
  · rw [List.getElem_set_ne e, List.getElem_set_ne e, hne j fun e' => e e'.symm]
    exact h.2 j (by simpa using h1) (by simpa using h2)
theorem flat_pull {cur : List Heaplet} {j : Nat} (h : j < cur.length) : List.Perm (blks cur.flatten) (blks (cur.take j ++ cur.drop (j + 1)).flatten ++ blks cur[j]) := by
  have e : cur.flatten = (cur.take j).flatten ++ (cur[j] ++ (cur.drop (j + 1)).flatten) := by
    have h1 := List.take_append_drop j cur
    rw [List.drop_eq_getElem_cons h] at h1
    have h3 := congrArg List.flatten h1
    rw [List.flatten_append, List.flatten_cons] at h3
    exact h3.symm
  rw [e, List.flatten_append, blks_append, blks_append, blks_append, List.append_assoc]
  exact List.Perm.append_left _ List.perm_append_comm
theorem flat_set {cur : List Heaplet} {j : Nat} (h : j < cur.length) (M : Heaplet) : List.Perm (blks (cur.set j M).flatten) (blks (cur.take j ++ cur.drop (j + 1)).flatten ++ blks M) := by
  have e : (cur.set j M).flatten = (cur.take j).flatten ++ (M ++ (cur.drop (j + 1)).flatten) := by
    rw [List.set_eq_take_append_cons_drop, if_pos h]
    simp
  rw [e, List.flatten_append, blks_append, blks_append, blks_append, List.append_assoc]
  exact List.Perm.append_left _ List.perm_append_comm

mutual
def mkT : T → Int → T × Int
  | .mk _ _ _ ks, k => (.mk k (k + 1) (markS (k + 2)) (mkL ks (k + 3)).1, (mkL ks (k + 3)).2)
def mkL : List T → Int → List T × Int
  | [], k => ([], k)
  | t :: ts, k => ((mkT t k).1 :: (mkL ts (mkT t k).2).1, (mkL ts (mkT t k).2).2)
end
mutual
theorem mkT_end : ∀ (t : T) (k : Int), (mkT t k).2 = k + 3 * cntT t
  | .mk _ _ _ ks, k => by
    rw [mkT, mkL_end ks (k + 3), show cntT (T.mk _ _ _ ks) = 1 + cntL ks from rfl]
    omega
theorem mkL_end : ∀ (ts : List T) (k : Int), (mkL ts k).2 = k + 3 * cntL ts
  | [], k => by simp [mkL, cntL]
  | t :: ts, k => by
    rw [mkL]
    show (mkL ts (mkT t k).2).2 = _
    rw [mkL_end ts, mkT_end t k, show cntL (t :: ts) = cntT t + cntL ts from rfl]
    omega
end
theorem mkL_drop (ts : List T) (k : Int) (j : Nat) (h : j < ts.length) : mkL (ts.drop j) k = ((mkT ts[j] k).1 :: (mkL (ts.drop (j + 1)) (mkT ts[j] k).2).1, (mkL (ts.drop (j + 1)) (mkT ts[j] k).2).2) := by
  rw [List.drop_eq_getElem_cons h, mkL]
theorem mkT_eq (t : T) (k : Int) : mkT t k = (.mk k (k + 1) (markS (k + 2)) (mkL t.kids (k + 3)).1, (mkL t.kids (k + 3)).2) := by
  cases t; rw [mkT]; rfl
theorem mkL_len : ∀ (ts : List T) (k : Int), (mkL ts k).1.length = ts.length
  | [], k => rfl
  | t :: ts, k => by rw [mkL]; simp [mkL_len ts]

def MarkOk (ts : List T) : Prop := ∀ (S : Store) (L : Heaplet) (v : Value) (k : Int), TrSl 4 TrT L v ts → 0 ≤ k → k + 3 * cntL ts ≤ 4611686018427387904 →
  Tri Try.prog n_l_markTermS [v, .int .i64 k] (blks L) S fun r I' S' => S' = S ∧ r = .int .i64 (mkL ts k).2 ∧ ∃ L', I' = blks L' ∧ TrSl 4 TrT L' v (mkL ts k).1
section
attribute [local irreducible] Run CondV GuardV LoadV
theorem markTermS_of {ts : List T} (ih : ∀ t ∈ ts, MarkOk t.kids) : MarkOk ts := by
  intro S L v k hT hk0 hk w hI
  obtain ⟨a, cap, rfl, hl, hc, hT⟩ := hT
  refine calls_l_markTermS ?_
  unfold sh_l_markTermS
  rcases hT with ⟨rfl, rfl⟩ | ⟨b, c, E, Ls, rfl, rfl, hLs, hsz, hT⟩
  · refine ⟨fun i m w' => i = .int .i64 0 ∧ m = .int .i64 k ∧ Inv w [] [] S w', fun _ _ _ => 0, ⟨rfl, rfl, hI⟩, ?_⟩
    intro t5 _ _ _ _ _ _ _ _ _ _ _ _ _ _ _ _ _ _ _ _ _ _ _ _ t1 _ _ _ _ _ _ _ _ _ _ _ w'
    rintro ⟨rfl, rfl, hI⟩
    refine r_len sl_SiTerm ?_
    refine r_lss ?_
    refine condP (fun h => by simp at h) (fun _ => ?_)
    exact ⟨_, _, _, rfl, hI, Ext.refl _ _ _, rfl, by rw [mkL], [], rfl, TrSl.nil hc⟩
  · obtain ⟨X, hX⟩ : ∃ X, X = feet (blks ((b, .cells c E) :: Ls.flatten)) := ⟨_, rfl⟩
    rw [← hX] at hI ⊢
    simp only [maxLen] at hc
    refine ⟨fun i m w' => ∃ (j : Nat) (c' : Array Value) (cur : List Heaplet) (m' : Int) (dn : List T), j ≤ ts.length ∧ i = .int .i64 j ∧ m = .int .i64 m' ∧ dn.length = j ∧ c'.size = c.size ∧ Part 4 TrT c' cur (dn ++ ts.drop j) ∧
        dn ++ (mkL (ts.drop j) m').1 = (mkL ts k).1 ∧ (mkL (ts.drop j) m').2 = (mkL ts k).2 ∧ 0 ≤ m' ∧ m' + 3 * cntL (ts.drop j) ≤ 4611686018427387904 ∧ Inv w X (blks ((b, .cells c' E) :: cur.flatten)) S w',
      fun i _ _ => ts.length - (intOf i).toNat, ⟨0, c, Ls, k, [], Nat.zero_le _, rfl, rfl, rfl, rfl, ⟨hLs, hT⟩, rfl, rfl, hk0, hk, hI⟩, ?_⟩
    intro t5 _ _ _ _ _ _ _ _ _ _ _ _ _ _ _ _ _ _ _ _ _ _ _ _ t1 _ _ _ _ _ _ _ _ _ _ _ w'
    rintro ⟨j, c', cur, m, dn, hj, rfl, rfl, hdn, hcs, hP, hr1, hr2, hm0, hm, hI⟩
    refine r_len sl_SiTerm ?_
    refine r_lss ?_
    refine condP (fun hji => ?_) (fun hji => ?_)
    · have hj' : j < ts.length := by omega
      have hpl : (dn ++ ts.drop j).length = ts.length := by simp; omega
      have hcl : cur.length = ts.length := by rw [hP.1, hpl]
      have hjc : j < cur.length := by omega
      have hge : (dn ++ ts.drop j)[j]'(by omega) = ts[j] := by
        rw [List.getElem_append_right (by omega)]
        simp [hdn]
      have hTj := hP.2 j (by omega) hjc
      rw [hge] at hTj
      obtain ⟨kv, hcell, _, _, _, hkT⟩ := TrT.iff.1 hTj
      have hkv : kv.oneCell' = true ∧ kv.cells = #[kv] := by obtain ⟨a, cap', rfl, _⟩ := hkT; exact ⟨rfl, rfl⟩
      have hfit : j * 4 + 4 ≤ c'.size := by
        have : (j + 1) * 4 ≤ cap * 4 := Nat.mul_le_mul_right 4 (by omega)
        omega
      rw [mkL_drop ts m j hj'] at hr1 hr2
      rw [cntL_split ts j hj'] at hm
      have hcn := cntL_pos (ts.drop (j + 1))
      have hcm : cntT ts[j] = 1 + cntL ts[j].kids := by
        cases ts[j]; rfl
      have hck := cntL_pos ts[j].kids
      obtain ⟨c1, hc1⟩ : ∃ c1, c1 = putCells c' (j * 4 + 0) [.int .i64 m] := ⟨_, rfl⟩
      obtain ⟨c2, hc2⟩ : ∃ c2, c2 = putCells c1 (j * 4 + 1) [.int .i64 (m + 1)] := ⟨_, rfl⟩
      obtain ⟨c3, hc3⟩ : ∃ c3, c3 = putCells c2 (j * 4 + 2) [.string (markS (m + 2))] := ⟨_, rfl⟩
      have hs1 : c1.size = c'.size := by rw [hc1]; exact putCells_size _ _ _ (by simp; omega)
      have hs2 : c2.size = c'.size := by rw [hc2]; exact (putCells_size _ _ _ (by simp; omega)).trans hs1
      have hs3 : c3.size = c'.size := by rw [hc3]; exact (putCells_size _ _ _ (by simp; omega)).trans hs2
      refine r_indexAddr sl_SiTerm hj' ?_
      refine r_field fo_iTerm_0 ?_
      rw [Nat.zero_add]
      refine r_store hI 0 (n := 1) rfl (by decide +kernel) rfl (by omega) (by simp [Value.cells, Value.oneCell']) fun w' hI => ?_
      have hI : Inv w X (.blk b (.cells c1 E) :: blks cur.flatten) S w' := by rw [hc1]; exact hI
      refine r_add (by omega) ?_
      refine r_indexAddr sl_SiTerm hj' ?_
      refine r_field fo_iTerm_1 ?_
      rw [Nat.zero_add]
      refine r_store hI 0 (n := 1) rfl (by decide +kernel) rfl (by omega) (by simp [Value.cells, Value.oneCell']) fun w' hI => ?_
      have hI : Inv w X (.blk b (.cells c2 E) :: blks cur.flatten) S w' := by rw [hc2]; exact hI
      refine r_add (by omega) ?_
      have e2 : m + 1 + 1 = m + 2 := by omega
      rw [e2]
      refine Run.callPure fn_l_markText nm_l_markText hI (markText_calls _ S (by omega)) fun w' hI => ?_
      refine r_indexAddr sl_SiTerm hj' ?_
      refine r_field fo_iTerm_2 ?_
      rw [Nat.zero_add]
      refine r_store hI 0 (n := 1) rfl (by decide +kernel) rfl (by omega) (by simp [Value.cells, Value.oneCell']) fun w' hI => ?_
      have hI : Inv w X (.blk b (.cells c3 E) :: blks cur.flatten) S w' := by rw [hc3]; exact hI
      refine r_add (by omega) ?_
      refine r_indexAddr sl_SiTerm hj' ?_
      refine r_field fo_iTerm_3 ?_
      rw [Nat.zero_add]
      have hcc : cellsAt c3 (j * 4) 4 = [.int .i64 m, .int .i64 (m + 1), .string (markS (m + 2)), kv] := by
        rw [hc3, cellsAt_put1 (by omega) (by omega), hc2, cellsAt_put1 (by omega) (by omega), hc1, cellsAt_put1 (by omega) (by omega), hcell]
        rfl
      have hne : ∀ i, i ≠ j → cellsAt c3 (i * 4) 4 = cellsAt c' (i * 4) 4 := by
        intro i hi
        have : i * 4 + 4 ≤ j * 4 ∨ j * 4 + 4 ≤ i * 4 := by omega
        rw [hc3, cellsAt_put_ne (by simp; omega) (by simp; omega), hc2, cellsAt_put_ne (by simp; omega) (by simp; omega), hc1, cellsAt_put_ne (by simp; omega) (by simp; omega)]
      refine r_load sc_SiTerm (by rw [hI.cellL (i := 0) rfl]; exact cellsAt_get hcc 3 _ rfl) ?_
      have hI := hI.perm (M := (.blk b (.cells c3 E) :: blks (cur.take j ++ cur.drop (j + 1)).flatten) ++ blks cur[j]) ((flat_pull hjc).symm.cons _)
      have e3 : m + 2 + 1 = m + 3 := by omega
      rw [e3]
      refine Run.call (A := .blk b (.cells c3 E) :: blks (cur.take j ++ cur.drop (j + 1)).flatten) fn_l_markTermS nm_l_markTermS hI (ih _ (List.getElem_mem hj') S cur[j] kv (m + 3) hkT (by omega) (by omega)) fun v' I' S' w' => ?_
      rintro ⟨rfl, rfl, L', rfl, hT'⟩ _ hI
      have hI : Inv w X (blks ((b, .cells c3 E) :: (cur.set j L').flatten)) S' w' := hI.perm ((flat_set hjc L').cons _)
      refine r_add (by omega) ?_
      rw [mkT_eq] at hr1 hr2
      refine ⟨⟨j + 1, c3, cur.set j L', _, dn ++ [.mk m (m + 1) (markS (m + 2)) (mkL ts[j].kids (m + 3)).1], hj', rfl, rfl, by simp [hdn], by omega, ?_, ?_, hr2, ?_, ?_, hI⟩, by simp [intOf]; omega⟩
      · have hnew : TrT L' (cellsAt c3 (j * 4) 4) (.mk m (m + 1) (markS (m + 2)) (mkL ts[j].kids (m + 3)).1) :=
          TrT.iff.2 ⟨kv, hcc, ⟨by simp only [T.kind]; omega, by simp only [T.kind]; omega⟩, ⟨by simp only [T.n]; omega, by simp only [T.n]; omega⟩, markS_size _ (by omega), hT'⟩
        have := hP.upd hnew hne
        have e : (dn ++ ts.drop j).set j (.mk m (m + 1) (markS (m + 2)) (mkL ts[j].kids (m + 3)).1) = (dn ++ [.mk m (m + 1) (markS (m + 2)) (mkL ts[j].kids (m + 3)).1]) ++ ts.drop (j + 1) := by
          rw [List.set_append, if_neg (by omega), List.drop_eq_getElem_cons hj', hdn, Nat.sub_self, List.append_assoc]
          rfl
        rw [e] at this
        exact this
      · rw [← hr1]
        simp
      · rw [mkL_end]; omega
      · rw [mkL_end]; omega
    · have : j = ts.length := by omega
      subst this
      rw [List.drop_length] at hr1 hr2 hP
      simp only [mkL, List.append_nil] at hr1 hr2 hP
      subst hr1 hr2
      have hl' := mkL_len ts k
      refine ⟨_, _, _, rfl, hI, Ext.refl _ _ _, rfl, rfl, _, rfl, ?_⟩
      rw [← hl']
      exact hP.sl (by omega) (by simp only [maxLen]; omega) (by omega)
theorem markKids_ok : ∀ t : T, MarkOk t.kids := by
  refine T.ind fun k n s ks ih => ?_
  exact markTermS_of ih
theorem markTermS_ok (ts : List T) : MarkOk ts := markTermS_of fun t _ => markKids_ok t
end

end Go.Proofs.Ytaaihodhhacapaa

/- The laws' marks, written into clauses of the function's own. -/
namespace Go.Proofs.Ytaaihodhhacapaa
open Go Go.RowKit

def mkC (c : C) (k : Int) : C × Int := (⟨.mk k (k + 1) (markS (k + 2)) (mkL c.head.kids (k + 3)).1, (mkL c.body (mkL c.head.kids (k + 3)).2).1⟩, (mkL c.body (mkL c.head.kids (k + 3)).2).2)
def mkP : List C → Int → List C × Int
  | [], k => ([], k)
  | c :: cs, k => ((mkC c k).1 :: (mkP cs (mkC c k).2).1, (mkP cs (mkC c k).2).2)
def cntC (c : C) : Int := cntT c.head + cntL c.body
def cntP : List C → Int
  | [] => 0
  | c :: cs => cntC c + cntP cs
theorem cntC_eq (c : C) : cntC c = 1 + cntL c.head.kids + cntL c.body := by
  obtain ⟨⟨k, n, s, ks⟩, b⟩ := c
  rfl
theorem cntC_pos (c : C) : 0 ≤ cntC c := by
  have := cntL_pos c.head.kids
  have := cntL_pos c.body
  rw [cntC_eq]
  omega
theorem cntP_pos : ∀ p : List C, 0 ≤ cntP p
  | [] => Int.le_refl _
  | c :: p => by
    have := cntP_pos p
    have := cntC_pos c
    rw [cntP]; omega
theorem cntC_wC (c : C) : cntC c ≤ 1 + (wC c : Int) := by
  obtain ⟨⟨k, n, s, ks⟩, b⟩ := c
  rw [cntC_eq]
  have h1 := cnt_wL ks
  have h2 := cnt_wL b
  simp only [wC, wT, T.kids]
  omega
theorem cntP_wP : ∀ p : List C, cntP p ≤ p.length + (wP p : Int)
  | [] => by simp [cntP, wP]
  | c :: p => by
    have := cntP_wP p
    have := cntC_wC c
    rw [cntP, wP, List.length_cons]
    omega
theorem cntP_split (p : List C) (j : Nat) (h : j < p.length) : cntP (p.drop j) = cntC p[j] + cntP (p.drop (j + 1)) := by
  rw [List.drop_eq_getElem_cons h, cntP]
theorem mkC_end (c : C) (k : Int) : (mkC c k).2 = k + 3 * cntC c := by
  rw [mkC, cntC_eq]
  show (mkL c.body (mkL c.head.kids (k + 3)).2).2 = _
  rw [mkL_end, mkL_end]
  omega
theorem mkP_end : ∀ (p : List C) (k : Int), (mkP p k).2 = k + 3 * cntP p
  | [], k => by simp [mkP, cntP]
  | c :: p, k => by
    rw [mkP, cntP]
    show (mkP p (mkC c k).2).2 = _
    rw [mkP_end p, mkC_end]
    omega
theorem mkP_drop (p : List C) (k : Int) (j : Nat) (h : j < p.length) : mkP (p.drop j) k = ((mkC p[j] k).1 :: (mkP (p.drop (j + 1)) (mkC p[j] k).2).1, (mkP (p.drop (j + 1)) (mkC p[j] k).2).2) := by
  rw [List.drop_eq_getElem_cons h, mkP]
theorem mkP_len : ∀ (p : List C) (k : Int), (mkP p k).1.length = p.length
  | [], k => rfl
  | c :: p, k => by rw [mkP]; simp [mkP_len p]

section
attribute [local irreducible] Run CondV GuardV LoadV
theorem markTerm_calls {t : T} {S : Store} {L : Heaplet} {cs : List Value} {k : Int} (hT : TrT L cs t) (hk0 : 0 ≤ k) (hk : k + 3 * cntL t.kids ≤ 4611686018427387904) :
    Tri Try.prog n_l_markTerm [.agg cs.toArray, .int .i64 k] (blks L) S fun r _ S' => S' = S ∧ r = .int .i64 (mkL t.kids k).2 := by
  intro w hI
  obtain ⟨kv, rfl, _, _, _, hkT⟩ := TrT.iff.1 hT
  refine calls_l_markTerm ?_
  unfold sh_l_markTerm
  refine r_box hI fun b1 w' hI => ?_
  have hI := hI.perm (M := [.blk b1 (.cells #[.int .i64 t.kind, .int .i64 t.n, .string t.name, kv] t_iTerm)] ++ blks L) List.perm_append_comm
  refine r_fieldL hI 0 rfl fo_iTerm_3 sc_SiTerm rfl ?_
  refine Run.call (A := [_]) fn_l_markTermS nm_l_markTermS hI (markTermS_ok t.kids S L kv k hkT hk0 hk) fun v' I' S' w' => ?_
  rintro ⟨rfl, rfl, L', rfl, _⟩ _ hI
  exact ⟨_, _, _, rfl, hI, Ext.refl _ _ _, rfl, rfl⟩
theorem TrC.parts {L : Heaplet} {cs : List Value} {c : C} (h : TrC L cs c) : ∃ kv ks L1 L2, cs = [.int .i64 c.head.kind, .int .i64 c.head.n, .string c.head.name, kv, ks] ∧ L = L1 ++ L2 ∧ TrSl 4 TrT L1 kv c.head.kids ∧ TrSl 4 TrT L2 ks c.body := by
  obtain ⟨hd, ks, L1, L2, rfl, rfl, h1, h2⟩ := h
  obtain ⟨kv, rfl, _, _, _, hkT⟩ := TrT.iff.1 h1
  exact ⟨kv, ks, L1, L2, rfl, rfl, hkT, h2⟩
end

end Go.Proofs.Ytaaihodhhacapaa

/- The laws' marks, read again. -/
namespace Go.Proofs.Ytaaihodhhacapaa
open Go Go.RowKit

def HeldOk (ts : List T) : Prop := ∀ (S : Store) (v : Value) (k : Int), RdSl S 4 (RdT S) v (mkL ts k).1 → 0 ≤ k → k + 3 * cntL ts ≤ 4611686018427387904 →
  Pure Try.prog n_l_heldTermS [v, .int .i64 k] S (.int .i64 (mkL ts k).2)
section
attribute [local irreducible] Run CondV GuardV LoadV
theorem heldTermS_of {ts : List T} (ih : ∀ t ∈ ts, HeldOk t.kids) : HeldOk ts := by
  intro S v k h hk0 hk w hI
  have hlen := h.le
  have hml := mkL_len ts k
  simp only [maxLen] at hlen
  refine calls_l_heldTermS ?_
  unfold sh_l_heldTermS
  refine ⟨fun i m w' => ∃ (j : Nat) (m' : Int), j ≤ ts.length ∧ i = .int .i64 j ∧ m = .int .i64 m' ∧ (mkL ts k).1.drop j = (mkL (ts.drop j) m').1 ∧ (mkL (ts.drop j) m').2 = (mkL ts k).2 ∧ 0 ≤ m' ∧ m' + 3 * cntL (ts.drop j) ≤ 4611686018427387904 ∧ Inv w [] [] S w',
    fun i _ _ => ts.length - (intOf i).toNat, ⟨0, k, Nat.zero_le _, rfl, rfl, rfl, rfl, hk0, hk, hI⟩, ?_⟩
  intro t5 _ _ _ _ _ _ _ _ _ _ _ _ _ _ _ _ _ _ _ _ _ _ _ _ _ _ _ _ _ _ t1 _ _ _ _ _ _ _ _ _ _ _ _ _ _ w'
  rintro ⟨j, m, hj, rfl, rfl, hr1, hr2, hm0, hm, hI⟩
  refine r_lenSl h sl_SiTerm ?_
  refine r_lss ?_
  refine condP (fun hji => ?_) (fun hji => ?_)
  · have hj' : j < ts.length := by omega
    have hjm : j < (mkL ts k).1.length := by omega
    rw [mkL_drop ts m j hj'] at hr1 hr2
    rw [List.drop_eq_getElem_cons hjm, List.cons.injEq] at hr1
    obtain ⟨hel, hr1⟩ := hr1
    rw [mkT_eq] at hel hr1 hr2
    rw [cntL_split ts j hj'] at hm
    have hcn := cntL_pos (ts.drop (j + 1))
    have hcm : cntT ts[j] = 1 + cntL ts[j].kids := by
      cases ts[j]; rfl
    have hck := cntL_pos ts[j].kids
    have hke := mkL_end ts[j].kids (m + 3)
    obtain ⟨b, o, cap, c, E, fz, hv, hS, hR⟩ := h.at_ hjm
    rw [hel] at hR
    obtain ⟨kv, hcell, _, _, _, hkR⟩ := RdT.iff.1 hR
    subst hv
    have e0 : m + 1 + 1 = m + 2 := by omega
    have e1 : m + 2 + 1 = m + 3 := by omega
    refine r_indexAddr sl_SiTerm hjm ?_
    refine r_field fo_iTerm_0 ?_
    refine r_load sc_int (by rw [hI.cellS hS]; exact cellsAt_get hcell 0 _ rfl) ?_
    refine r_neq ?_
    refine condV (fun hb => by simp [T.kind] at hb) (fun _ => ?_)
    refine r_add (by omega) ?_
    refine r_indexAddr sl_SiTerm hjm ?_
    refine r_field fo_iTerm_1 ?_
    refine r_load sc_int (by rw [hI.cellS hS]; exact cellsAt_get hcell 1 _ rfl) ?_
    refine r_neq ?_
    refine condV (fun hb => by simp [T.n] at hb) (fun _ => ?_)
    refine r_add (by omega) ?_
    rw [e0]
    refine ⟨fun D x37 x36 x35 x34 x33 x32 x31 x30 w_ => (D 0 = true → x30 = .slice (some ⟨b, o, none⟩) (mkL ts k).1.length cap) ∧ (D 1 = true → x31 = .int .i64 j) ∧ (D 2 = true → x32 = .pointer (some ⟨b, o + j * 4, none⟩)) ∧ (D 3 = true → x33 = .pointer (some ⟨b, o + j * 4 + 2, none⟩)) ∧ (D 4 = true → x34 = .string (markS (m + 2))) ∧ (D 5 = true → x35 = .int .i64 (m + 2)) ∧ (D 6 = true → x36 = .string (markS (m + 2))) ∧ (D 7 = true → x37 = .bool false) ∧ Inv w [] [] S w_, ⟨fun h => Bool.noConfusion h, fun h => Bool.noConfusion h, fun h => Bool.noConfusion h, fun h => Bool.noConfusion h, fun h => Bool.noConfusion h, fun h => Bool.noConfusion h, fun h => Bool.noConfusion h, fun h => Bool.noConfusion h, hI.draw⟩, ⟨?_, ?_, ?_, ?_, ?_, ?_, ?_, ?_, trivial⟩, ?_⟩
    · intro D hD_  x37 x36 x35 x34 x33 x32 x31 x30 w_
      rintro ⟨h0_, h1_, h2_, h3_, h4_, h5_, h6_, h7_, hI⟩
      exact ⟨fun _ => rfl, h1_, h2_, h3_, h4_, h5_, h6_, h7_, hI⟩
    · intro D hD_  x37 x36 x35 x34 x33 x32 x31 x30 w_
      rintro ⟨h0_, h1_, h2_, h3_, h4_, h5_, h6_, h7_, hI⟩
      exact ⟨h0_, fun _ => rfl, h2_, h3_, h4_, h5_, h6_, h7_, hI⟩
    · intro D hD_ d0_0 d1_1 x37 x36 x35 x34 x33 x32 x31 x30 w_
      rintro ⟨h0_, h1_, h2_, h3_, h4_, h5_, h6_, h7_, hI⟩
      obtain rfl := h0_ d0_0
      obtain rfl := h1_ d1_1
      refine r_indexAddr sl_SiTerm hjm ?_
      exact ⟨h0_, h1_, fun _ => rfl, h3_, h4_, h5_, h6_, h7_, hI⟩
    · intro D hD_ d2_0 x37 x36 x35 x34 x33 x32 x31 x30 w_
      rintro ⟨h0_, h1_, h2_, h3_, h4_, h5_, h6_, h7_, hI⟩
      obtain rfl := h2_ d2_0
      refine r_field fo_iTerm_2 ?_
      exact ⟨h0_, h1_, h2_, fun _ => rfl, h4_, h5_, h6_, h7_, hI⟩
    · intro D hD_ d3_0 x37 x36 x35 x34 x33 x32 x31 x30 w_
      rintro ⟨h0_, h1_, h2_, h3_, h4_, h5_, h6_, h7_, hI⟩
      obtain rfl := h3_ d3_0
      refine r_load sc_string (by rw [hI.cellS hS]; exact cellsAt_get hcell 2 _ rfl) ?_
      exact ⟨h0_, h1_, h2_, h3_, fun _ => rfl, h5_, h6_, h7_, hI⟩
    · intro D hD_  x37 x36 x35 x34 x33 x32 x31 x30 w_
      rintro ⟨h0_, h1_, h2_, h3_, h4_, h5_, h6_, h7_, hI⟩
      exact ⟨h0_, h1_, h2_, h3_, h4_, fun _ => rfl, h6_, h7_, hI⟩
    · intro D hD_ d5_0 x37 x36 x35 x34 x33 x32 x31 x30 w_
      rintro ⟨h0_, h1_, h2_, h3_, h4_, h5_, h6_, h7_, hI⟩
      obtain rfl := h5_ d5_0
      refine Run.callPure fn_l_markText nm_l_markText hI (markText_calls _ S (by omega)) fun w_ hI => ?_
      exact ⟨h0_, h1_, h2_, h3_, h4_, h5_, fun _ => rfl, h7_, hI⟩
    · intro D hD_ d4_0 d6_1 x37 x36 x35 x34 x33 x32 x31 x30 w_
      rintro ⟨h0_, h1_, h2_, h3_, h4_, h5_, h6_, h7_, hI⟩
      obtain rfl := h4_ d4_0
      obtain rfl := h6_ d6_1
      refine r_sneq ?_; rw [decide_eq_true rfl]
      exact ⟨h0_, h1_, h2_, h3_, h4_, h5_, h6_, fun _ => rfl, hI⟩
    intro D d7_ d6_ d5_ d4_ d3_ d2_ d1_ d0_ x37 x36 x35 x34 x33 x32 x31 x30 w_
    rintro ⟨h0_, h1_, h2_, h3_, h4_, h5_, h6_, h7_, hI⟩
    obtain rfl := h7_ d7_
    obtain rfl := h6_ d6_
    obtain rfl := h5_ d5_
    obtain rfl := h4_ d4_
    obtain rfl := h3_ d3_
    obtain rfl := h2_ d2_
    obtain rfl := h1_ d1_
    obtain rfl := h0_ d0_
    clear h0_ h1_ h2_ h3_ h4_ h5_ h6_ h7_
    refine condV (fun hb => by cases hb) (fun _ => ?_)
    refine r_add (by omega) ?_
    rw [e1]
    refine r_indexAddr sl_SiTerm hjm ?_
    refine r_field fo_iTerm_3 ?_
    refine r_load sc_SiTerm (by rw [hI.cellS hS]; exact cellsAt_get hcell 3 _ rfl) ?_
    refine Run.callPure fn_l_heldTermS nm_l_heldTermS hI (ih _ (List.getElem_mem hj') S kv (m + 3) hkR (by omega) (by omega)) fun w' hI => ?_
    refine r_lss ?_
    refine condP (fun hb => by omega) (fun _ => ?_)
    refine r_add (by omega) ?_
    exact ⟨⟨j + 1, _, hj', rfl, rfl, hr1, hr2, by omega, by omega, hI⟩, by simp [intOf]; omega⟩
  · have : j = ts.length := by omega
    subst this
    rw [List.drop_length] at hr2
    exact done hI (by rw [← hr2, mkL])
theorem heldKids_ok : ∀ t : T, HeldOk t.kids := by
  refine T.ind fun k n s ks ih => ?_
  exact heldTermS_of ih
theorem heldTermS_ok (ts : List T) : HeldOk ts := heldTermS_of fun t _ => heldKids_ok t

end

end Go.Proofs.Ytaaihodhhacapaa

/- Names of goals with their numbers of arguments: built, compared; the clauses for one. -/
namespace Go.Proofs.Ytaaihodhhacapaa
open Go Go.RowKit

theorem run_partSc {P : Program} {w : World} {T : TypeId} {cs : Array Value} {off : Nat} {v : Value} (h : isSc P T = true) (hx : cs[off]? = some v) : (part T cs off).run P w = .ok v w := by
  simp [part, (isSc_true (w := w) h).1, hx]
section
variable {w : World} {K : Value → World → Prop}
attribute [local irreducible] Run
end

attribute [local irreducible] Run CondV GuardV LoadV
structure Pd where
  name : ByteArray
  arity : Int
deriving DecidableEq
def Pd.cells (x : Pd) : List Value := [.string x.name, .int .i64 x.arity]
def RdPd (cs : List Value) (x : Pd) : Prop := cs = x.cells
def predT (t : T) : Pd := ⟨t.name, t.kids.length⟩
def eqPd (x y : Pd) : Bool := decide (x.name = y.name) && decide (x.arity = y.arity)
theorem eqPd_iff (x y : Pd) : eqPd x y = decide (x = y) := by
  obtain ⟨a, b⟩ := x
  obtain ⟨c, d⟩ := y
  rw [eqPd, Bool.eq_iff_iff]
  simp
def posOf (f : C → Bool) : List C → Nat → List Int
  | [], _ => []
  | c :: cs, k => if f c = true then (k : Int) :: posOf f cs (k + 1) else posOf f cs (k + 1)
theorem posOf_at (f : C → Bool) : ∀ (p : List C) (k : Nat) (n : Int), n ∈ posOf f p k → ∃ i : Nat, (k : Int) ≤ n ∧ n = k + i ∧ ∃ h : i < p.length, f p[i] = true
  | [], k, n, h => by simp [posOf] at h
  | c :: cs, k, n, h => by
    have hrec : n ∈ posOf f cs (k + 1) → ∃ i : Nat, (k : Int) ≤ n ∧ n = k + i ∧ ∃ h : i < (c :: cs).length, f (c :: cs)[i] = true := by
      intro h
      obtain ⟨i, h1, h2, h3, h4⟩ := posOf_at f cs (k + 1) n h
      exact ⟨i + 1, by omega, by omega, by simpa using h3, by simpa using h4⟩
    rw [posOf] at h
    split at h
    · rcases List.mem_cons.1 h with rfl | h
      · exact ⟨0, by omega, by omega, by simp, by simpa using ‹f c = true›⟩
      · exact hrec h
    · exact hrec h
theorem posOf_len (f : C → Bool) : ∀ (p : List C) (k : Nat), (posOf f p k).length ≤ p.length
  | [], k => by simp [posOf]
  | c :: cs, k => by
    have := posOf_len f cs (k + 1)
    rw [posOf]
    split <;> simp <;> omega

end Go.Proofs.Ytaaihodhhacapaa

/- The clauses for a goal; which clauses can be unfolded: both sides. -/
namespace Go.Proofs.Ytaaihodhhacapaa
open Go Go.RowKit
attribute [local irreducible] Run CondV GuardV LoadV

theorem posOf_step (f : C → Bool) (p : List C) (k : Nat) (h : k < p.length) (l : List Int) : (if f p[k] = true then l ++ [(k : Int)] else l) ++ posOf f (p.drop (k + 1)) (k + 1) = l ++ posOf f (p.drop k) k := by
  rw [List.drop_eq_getElem_cons h, posOf]
  split
  · rw [List.append_assoc]; rfl
  · rfl

end Go.Proofs.Ytaaihodhhacapaa

/- Lists of predicates: asked and grown, on both sides. -/
namespace Go.Proofs.Ytaaihodhhacapaa
open Go Go.RowKit
attribute [local irreducible] Run CondV GuardV LoadV

def pds (l : List Pd) : List Value := l.flatMap Pd.cells
theorem pds_snoc (l : List Pd) (x : Pd) : pds l ++ x.cells = pds (l ++ [x]) := by simp [pds]
theorem RowRd.preds {S : Store} {v : Value} {e : TypeId} {l : List Pd} (h : RowRd S v e 2 l.length (pds l)) : RdSl S 2 RdPd v l :=
  RowRd.rd (f := Pd.cells) (fun _ => rfl) (fun _ _ => rfl) h
def hasP (l : List Pd) (x : Pd) : Bool := l.any fun y => eqPd x y
def addP (l : List Pd) (x : Pd) : List Pd := if hasP l x = true then l else l ++ [x]
theorem eqPd_comm (x y : Pd) : eqPd x y = eqPd y x := by
  rw [eqPd_iff, eqPd_iff, Bool.eq_iff_iff]
  simp only [decide_eq_true_eq]
  exact ⟨Eq.symm, Eq.symm⟩

end Go.Proofs.Ytaaihodhhacapaa

/- Marks in rows of predicates; trees lent and taken back. -/
namespace Go.Proofs.Ytaaihodhhacapaa
open Go Go.RowKit

/- a tree of the function's own, handed to readers, and taken back -/
theorem Inv.lendAll {w0 w : World} {X : List Nat} {A : List Item} (M : Heaplet) {S : Store} (h : Inv w0 X (A ++ blks M) S w) :
    ∃ S', Sle S S' ∧ Ins S' M ∧ Inv w0 X A S' w ∧ ∀ B w', Inv w0 X B S' w' → Inv w0 X (B ++ blks M) S w' := by
  obtain ⟨S', h1, h2, h3, h4⟩ := Inv.publishAll M h
  have hnd := h.nd
  rw [feet_append, List.nodup_append] at hnd
  refine ⟨S', h2, h3, h1, fun B w' hB => ⟨hB.size, hB.os, hB.tape, hB.output, hB.old, fun it hit => ?_, ?_, fun b hb => ?_, fun b o hb => ⟨(hB.pub b o (h2 b o hb)).1, fun hb' => ?_⟩⟩⟩
  · rcases List.mem_append.1 hit with hit | hit
    · exact hB.its it hit
    · obtain ⟨p, hp, rfl⟩ := List.mem_map.1 hit
      exact (hB.pub _ _ (h3 p hp)).1
  · rw [feet_append, List.nodup_append]
    refine ⟨hB.nd, hnd.2.1, fun a ha b hb e => ?_⟩
    subst e
    obtain ⟨p, hp, rfl⟩ := mem_feet_blks.1 hb
    exact (hB.pub _ _ (h3 p hp)).2 ha
  · rw [feet_append] at hb
    rcases List.mem_append.1 hb with hb | hb
    · exact hB.new b hb
    · exact h.new b (by rw [feet_append]; exact List.mem_append_right _ hb)
  · rw [feet_append] at hb'
    rcases List.mem_append.1 hb' with hb' | hb'
    · exact (hB.pub b o (h2 b o hb)).2 hb'
    · exact (h.pub b o hb).2 (by rw [feet_append]; exact List.mem_append_right _ hb')
/- a row seen as its block -/
theorem Inv.openRow {w0 w : World} {X : List Nat} {A : List Item} {S : Store} {v : Value} {e : TypeId} {k n : Nat} {xs : List Value} (h : Inv w0 X (A ++ [.row v e k n xs]) S w) :
    xs.length = n * k ∧ ((v = .slice none 0 0 ∧ n = 0) ∨ ∃ g cap cur, v = .slice (some ⟨g, 0, none⟩) n cap ∧ n ≤ cap ∧ cap ≤ maxLen ∧ cur.size = cap * k ∧ cur.toList.take (n * k) = xs ∧ Inv w0 X (A ++ [.blk g (.cells cur e)]) S w) := by
  have hm : w.ownsRow 0 e k v n xs := h.its (.row v e k n xs) (by simp)
  obtain ⟨hl, hm⟩ := hm
  refine ⟨hl, ?_⟩
  rcases hm with hn | ⟨g, cap, cur, rfl, _, hg, hnc, hcm, hcs, ht⟩
  · exact .inl hn
  · have hf : feet (A ++ [Item.blk g (.cells cur e)]) = feet (A ++ [Item.row (.slice (some ⟨g, 0, none⟩) n cap) e k n xs]) := by
      simp [feet, Item.foot, Value.ownBlock]
    refine .inr ⟨g, cap, cur, rfl, hnc, hcm, hcs, ht, h.size, h.os, h.tape, h.output, h.old, fun it hit => ?_, by rw [hf]; exact h.nd, by rw [hf]; exact h.new, by rw [hf]; exact h.pub⟩
    rcases List.mem_append.1 hit with hit | hit
    · exact h.its it (List.mem_append_left _ hit)
    · simp at hit
      subst hit
      exact hg
theorem Inv.closeRow {w0 w : World} {X : List Nat} {A : List Item} {S : Store} {g cap k n : Nat} {cur : Array Value} {e : TypeId} (h : Inv w0 X (A ++ [.blk g (.cells cur e)]) S w) (hn : n ≤ cap) (hc : cap ≤ maxLen) (hs : cur.size = cap * k) :
    Inv w0 X (A ++ [.row (.slice (some ⟨g, 0, none⟩) n cap) e k n (cur.toList.take (n * k))]) S w := by
  have hg : w.heap[g]? = some (.cells cur e) := h.its (.blk g (.cells cur e)) (by simp)
  have hf : feet (A ++ [Item.row (.slice (some ⟨g, 0, none⟩) n cap) e k n (cur.toList.take (n * k))]) = feet (A ++ [Item.blk g (.cells cur e)]) := by
    simp [feet, Item.foot, Value.ownBlock]
  refine ⟨h.size, h.os, h.tape, h.output, h.old, fun it hit => ?_, by rw [hf]; exact h.nd, by rw [hf]; exact h.new, by rw [hf]; exact h.pub⟩
  rcases List.mem_append.1 hit with hit | hit
  · exact h.its it (List.mem_append_left _ hit)
  · simp at hit
    subst hit
    refine ⟨?_, .inr ⟨g, cap, cur, rfl, Nat.zero_le _, hg, hn, hc, hs, rfl⟩⟩
    rw [List.length_take, Array.length_toList, hs]
    exact Nat.min_eq_left (Nat.mul_le_mul_right k hn)

def mkPd : List Pd → Int → List Pd
  | [], _ => []
  | _ :: l, k => ⟨markS k, k + 1⟩ :: mkPd l (k + 2)
theorem mkPd_len : ∀ (l : List Pd) (k : Int), (mkPd l k).length = l.length
  | [], k => rfl
  | x :: l, k => by rw [mkPd]; simp [mkPd_len l]
theorem mkPd_at : ∀ (l : List Pd) (k : Int) (j : Nat) (h : j < (mkPd l k).length), (mkPd l k)[j] = ⟨markS (k + 2 * j), k + 2 * j + 1⟩
  | [], k, j, h => by simp [mkPd] at h
  | x :: l, k, 0, h => by simp [mkPd]
  | x :: l, k, j + 1, h => by
    simp only [mkPd, List.getElem_cons_succ]
    rw [mkPd_at l (k + 2) j (by simpa [mkPd] using h)]
    rw [show k + 2 + 2 * (j : Int) = k + 2 * ((j + 1 : Nat) : Int) by omega]
theorem cells_list {c : Array Value} {l : List Pd} (h : ∀ i (h : i < l.length), cellsAt c (i * 2) 2 = l[i].cells) : c.toList.take (l.length * 2) = pds l := by
  apply List.ext_getElem?
  intro i
  rw [List.getElem?_take]
  split
  · rename_i hi
    have hq : i / 2 < l.length := by omega
    have h1 := h (i / 2) hq
    have h2 := flat_at Pd.cells 2 (fun _ => rfl) l (i / 2) hq
    have e1 : (cellsAt c (i / 2 * 2) 2)[i % 2]? = c.toList[i]? := by
      rw [cellsAt, List.getElem?_take, if_pos (by omega), List.getElem?_drop]
      congr 1
      omega
    have e2 : (l[i / 2].cells)[i % 2]? = (pds l)[i]? := by
      rw [← h2, List.getElem?_take, if_pos (by omega), List.getElem?_drop, pds]
      congr 1
      omega
    rw [← e1, h1, e2]
  · rename_i hi
    have hl : (pds l).length = l.length * 2 := flat_len Pd.cells 2 (fun _ => rfl) l
    rw [List.getElem?_eq_none (by omega)]
section
attribute [local irreducible] Run CondV GuardV LoadV
end

end Go.Proofs.Ytaaihodhhacapaa

/- Steps that the laws' walks share: copies lent and marked, results compared, marked and read again. -/
namespace Go.Proofs.Ytaaihodhhacapaa
open Go Go.RowKit
section
variable {w w0 : World} {X : List Nat} {L A : List Item} {S : Store} {K : Value → World → Prop}
attribute [local irreducible] Run CondV GuardV LoadV
/- copies that will be marked: their blocks are known -/
theorem Run.toTermM {p : List T} {v : Value} (hI : Inv w0 X L S w) (h : RdSl S 4 (RdT S) v p) (hw : p.length + wL p ≤ 1048576)
    (hk : ∀ v' M S' w', Sle S S' → RdSl S' 4 (RdT S') v' p → TrSl 4 TrT M v' p → Inv w0 X L S' w' → (∀ B w'', Inv w0 X B S' w'' → Inv w0 X (B ++ blks M) S w'') → K v' w') :
    Run Try.prog (sCall (.func (.func n_l_toTermS) #[] #[]) [v]) w K := by
  refine Run.call0 fn_l_toTermS nm_l_toTermS hI (toTermS_calls h hw) fun v' I' S' w' => ?_
  rintro ⟨rfl, M, rfl, hT⟩ _ hI
  obtain ⟨S2, hle, hins, hI, hb⟩ := Inv.lendAll M hI
  exact hk _ M _ _ hle (hT.rd hins fun _ _ _ hi h => h.rd hi) hT hI hb
/- they are marked, and nobody looks at them again -/
theorem Run.markL {p : List T} {v : Value} {M : Heaplet} {k : Int} (hI : Inv w0 X (A ++ blks M) S w) (hT : TrSl 4 TrT M v p) (hk0 : 0 ≤ k) (hk1 : k + 3 * cntL p ≤ 4611686018427387904)
    (hk : ∀ w', Inv w0 X A S w' → K (.int .i64 (k + 3 * cntL p)) w') : Run Try.prog (sCall (.func (.func n_l_markTermS) #[] #[]) [v, .int .i64 k]) w K := by
  refine Run.call fn_l_markTermS nm_l_markTermS hI (markTermS_ok p S M v k hT hk0 hk1) fun v' I' S' w' => ?_
  rintro ⟨rfl, rfl, _⟩ _ hI
  rw [mkL_end]
  exact hk _ (hI.sub (List.sublist_append_left _ _))
/- rows of predicates -/
end

end Go.Proofs.Ytaaihodhhacapaa

/- Trees grown by append; impl.own and its kin. -/
namespace Go.Proofs.Ytaaihodhhacapaa
open Go Go.RowKit

structure Grown {α : Type} (k : Nat) (R : Heaplet → List Value → α → Prop) (Ls : List Heaplet) (css : List (List Value)) (ys : List α) : Prop where
  hL : Ls.length = ys.length
  hc : css.length = ys.length
  hk : ∀ cs ∈ css, cs.length = k
  hR : ∀ i (h : i < ys.length) (h1 : i < Ls.length) (h2 : i < css.length), R Ls[i] css[i] ys[i]
theorem Grown.nil {α : Type} (k : Nat) (R : Heaplet → List Value → α → Prop) : Grown k R [] [] ([] : List α) := ⟨rfl, rfl, by simp, fun i h => by simp at h⟩
theorem Grown.snoc {α : Type} {k : Nat} {R : Heaplet → List Value → α → Prop} {Ls : List Heaplet} {css : List (List Value)} {ys : List α} (h : Grown k R Ls css ys) {L : Heaplet} {cs : List Value} {y : α} (hR : R L cs y) (hl : cs.length = k) :
    Grown k R (Ls ++ [L]) (css ++ [cs]) (ys ++ [y]) := by
  refine ⟨by simp [h.hL], by simp [h.hc], fun c hc => ?_, fun i h0 h1 h2 => ?_⟩
  · rcases List.mem_append.1 hc with hc | hc
    · exact h.hk c hc
    · simp at hc; subst hc; exact hl
  · have e1 := h.hL
    have e2 := h.hc
    by_cases hi : i < ys.length
    · rw [List.getElem_append_left (by omega), List.getElem_append_left (by omega), List.getElem_append_left hi]
      exact h.hR i hi (by omega) (by omega)
    · have : i = ys.length := by simp at h0; omega
      subst this
      rw [List.getElem_append_right (by omega), List.getElem_append_right (by omega), List.getElem_append_right (by omega)]
      simp only [e1, e2, Nat.sub_self, List.getElem_cons_zero]
      exact hR
theorem flatten_at (k : Nat) : ∀ (css : List (List Value)) (i : Nat) (_ : ∀ cs ∈ css, cs.length = k) (h : i < css.length), (css.flatten.drop (i * k)).take k = css[i]
  | [], i, _, h => by simp at h
  | c :: css, 0, hk, _ => by
    have := hk c (List.mem_cons_self ..)
    rw [List.flatten_cons, Nat.zero_mul, List.drop_zero, List.take_append_of_le_length (by omega), List.take_of_length_le (by omega)]
    rfl
  | c :: css, i + 1, hk, h => by
    have := hk c (List.mem_cons_self ..)
    rw [List.flatten_cons, Nat.succ_mul, Nat.add_comm, ← List.drop_drop, List.drop_left' this]
    exact flatten_at k css i (fun cs hc => hk cs (List.mem_cons_of_mem _ hc)) (by simpa using h)
abbrev rowG (v : Value) (e : TypeId) (k : Nat) (css : List (List Value)) : Item := .row v e k css.length css.flatten
theorem Inv.rowTree {α : Type} {w0 w : World} {X : List Nat} {A : List Item} {S : Store} {v : Value} {e : TypeId} {k : Nat} {R : Heaplet → List Value → α → Prop} {Ls : List Heaplet} {css : List (List Value)} {ys : List α}
    (h : Inv w0 X (A ++ (rowG v e k css :: blks Ls.flatten)) S w) (hg : Grown k R Ls css ys) : ∃ L, TrSl k R L v ys ∧ Inv w0 X (A ++ blks L) S w := by
  have hp : List.Perm ((A ++ blks Ls.flatten) ++ [rowG v e k css]) (A ++ (rowG v e k css :: blks Ls.flatten)) := by
    rw [List.append_assoc]
    exact List.Perm.append_left _ List.perm_append_comm
  obtain ⟨hl, ho⟩ := (h.perm hp).openRow
  have hcy := hg.hc
  have hLy := hg.hL
  rcases ho with ⟨rfl, h0⟩ | ⟨g, cap, cur, rfl, hnc, hcm, hcs, ht, hI⟩
  · have : ys = [] := List.eq_nil_of_length_eq_zero (by omega)
    subst this
    refine ⟨[], TrSl.nil (by simp [maxLen]), ?_⟩
    simpa [blks] using h.sub (List.sublist_append_left _ _)
  · by_cases hy : ys = []
    · subst hy
      have : css = [] := List.eq_nil_of_length_eq_zero (by simpa using hcy)
      subst this
      refine ⟨[], TrSl.nil hcm, ?_⟩
      simpa [blks] using h.sub (List.sublist_append_left _ _)
    · refine ⟨(g, .cells cur e) :: Ls.flatten, ⟨_, cap, by rw [hcy], by omega, hcm, .inr ⟨g, cur, e, Ls, rfl, rfl, hLy, by omega, fun i h1 h2 => ?_⟩⟩, ?_⟩
      · have hik : i * k + k ≤ css.length * k := by rw [← Nat.succ_mul]; exact Nat.mul_le_mul_right k (by omega)
        have := flatten_at k css i hg.hk (by omega)
        rw [← ht, List.drop_take, List.take_take, Nat.min_eq_left (by omega)] at this
        rw [cellsAt, this]
        exact hg.hR i h1 h2 (by omega)
      · refine hI.perm ?_
        rw [List.append_assoc]
        exact List.Perm.append_left _ (List.perm_append_comm (l₁ := [Item.blk g (.cells cur e)]))
theorem rowG_snoc (v : Value) (e : TypeId) (k : Nat) (css : List (List Value)) (cs : List Value) : Item.row v e k (css.length + 1) (css.flatten ++ cs) = rowG v e k (css ++ [cs]) := by
  simp [rowG]
section
variable {P : Program} {w w0 : World} {X : List Nat} {L : List Item} {S : Store} {K : Value → World → Prop}
attribute [local irreducible] Run CondV GuardV LoadV
/- append(row, x): x is put into a block of its own first -/
theorem r_append1 (h : Inv w0 X L S w) {T ty e : TypeId} {k by_ : Nat} {z v : Value} {cs : List Bool} {css : List (List Value)} (i : Nat) (xs : List Value)
    (hT : mkOf P T = some (e, k, by_, z)) (hk0 : 0 < k) (hk24 : k ≤ 65536) (hi : L[i]? = some (rowG v e k css)) (hl : xs.length = k) (h1 : ∀ u ∈ xs, u.oneCell' = true) (hfit : css.length + 1 ≤ 4294967296) (hby : by_ ≤ 32768)
    (hk : ∀ v' w', Inv w0 X (L.set i (rowG v' e k (css ++ [xs]))) S w' → K v' w') :
    Run P (sBuildSlice T 1 [(0, .agg xs.toArray)]) w fun u w' => Run P (sBuiltin .append #[T, T] ty cs [v, u]) w' K := by
  refine r_slice1 h hT (by simp [Value.cells, hl]) hk24 hk0 fun b w' hI => ?_
  have hil : i < L.length := (List.getElem?_eq_some_iff.1 hi).1
  refine r_append hI i xs hT hk0 (by rw [List.getElem?_append_left hil]; exact hi) (by omega) (m := 1) (o := 0) ?_ h1 hfit hby fun v' w' hI => ?_
  · intro j u hj
    rw [hI.cellL (i := L.length) (by rw [List.getElem?_append_right (Nat.le_refl _), Nat.sub_self]; rfl)]
    rw [Nat.zero_add]
    simpa [Value.cells] using hj
  · refine hk _ _ ?_
    rw [← rowG_snoc]
    rw [List.set_append_left _ _ hil] at hI
    exact hI.sub (List.sublist_append_left _ _)
end

section
attribute [local irreducible] Run CondV GuardV LoadV
theorem ownList_of {ts : List T} (ih : ∀ t ∈ ts, ∀ (S : Store) (cs : List Value), RdT S cs t → wT t ≤ 1048576 → Tri Try.prog n_i_own [.agg cs.toArray] [] S (PostT S t))
    {S : Store} {v : Value} (h : RdSl S 4 (RdT S) v ts) (hw : ts.length + wL ts ≤ 1048576) : Tri Try.prog n_i_ownList [v] [] S (PostS 4 TrT S ts) := by
  intro w hI
  refine calls_i_ownList ?_
  unfold sh_i_ownList
  refine r_lenSl h sl_SiTerm ?_
  refine ⟨fun i t w' => ∃ (k : Nat) (Ls : List Heaplet) (css : List (List Value)), k ≤ ts.length ∧ i = .int .i64 k ∧ Grown 4 TrT Ls css (ts.take k) ∧ Inv w [] (rowG t t_iTerm 4 css :: blks Ls.flatten) S w',
    fun i _ _ => ts.length - (intOf i).toNat, ⟨0, [], [], Nat.zero_le _, rfl, Grown.nil _ _, hI.rowNil t_iTerm 4⟩, ?_⟩
  intro t8 _ t3 _ _ _ _ _ _ _ _ _ w'
  rintro ⟨k, Ls, css, hk, rfl, hg, hI⟩
  refine r_lss ?_
  refine condP (fun hki => ?_) (fun hki => ?_)
  · have hk' : k < ts.length := by omega
    have htl : (ts.take k).length = k := by simp; omega
    have hcl := hg.hc
    refine r_elem hI h sl_SiTerm ag_iTerm hk' (fun _ _ => RdT.length) fun cs hcs => ?_
    have hm := List.getElem_mem hk'
    have hwm := wL_mem hm
    have hlc := hcs.length
    refine r_alloc hI zo_iTerm fun b6 w' hI => ?_
    have hI := hI.perm (M := .blk b6 _ :: (rowG t3 t_iTerm 4 css :: blks Ls.flatten)) (List.perm_append_comm (l₁ := [_]))
    refine r_storeW hI 0 rfl ag_iTerm (by simpa using hlc) rfl (by simpa using hcs.one) fun w' hI => ?_
    refine r_loadW hI 0 ag_iTerm rfl (by simpa using hlc) ?_
    have hI : Inv w [] (rowG t3 t_iTerm 4 css :: blks Ls.flatten) S w' := hI.sub (List.sublist_cons_self _ _)
    refine Run.call0 fn_i_own nm_i_own hI (ih _ hm S cs hcs (by omega)) fun v' I' S' w' => ?_
    rintro ⟨rfl, cs', L, rfl, rfl, hT⟩ _ hI
    refine r_append1 hI 0 cs' mk_SiTerm (by omega) (by omega) rfl hT.length hT.one (by omega) (by omega) fun v' w' hI => ?_
    refine r_add (by omega) ?_
    refine ⟨⟨k + 1, Ls ++ [L], css ++ [cs'], hk', rfl, ?_, ?_⟩, by simp [intOf]; omega⟩
    · rw [List.take_succ_eq_append_getElem hk']
      exact hg.snoc hT hT.length
    · simp only [List.flatten_append, List.flatten_cons, List.flatten_nil, List.append_nil, blks_append]
      exact hI
  · have : k = ts.length := by omega
    subst this
    rw [List.take_length] at hg
    obtain ⟨L, hT, hI⟩ := Inv.rowTree (A := []) hI hg
    exact ⟨_, _, _, rfl, hI, Ext.refl _ _ _, rfl, _, rfl, hT⟩
theorem own_calls : ∀ (t : T) (S : Store) (cs : List Value), RdT S cs t → wT t ≤ 1048576 → Tri Try.prog n_i_own [.agg cs.toArray] [] S (PostT S t) := by
  refine T.ind fun k n s ks ih S cs h hw => ?_
  intro w hI
  obtain ⟨kv, rfl, h1, h2, hs, hks⟩ := RdT.iff.1 h
  simp only [T.name, T.kids, T.kind, T.n] at h1 h2 hs hks ⊢
  simp only [wT] at hw
  refine calls_i_own ?_
  unfold sh_i_own
  refine r_box hI fun b1 w' hI => ?_
  refine r_alloc hI zo_iTerm fun b2 w' hI => ?_
  refine r_fieldL hI 0 rfl fo_iTerm_3 sc_SiTerm rfl ?_
  refine Run.call0 fn_i_ownList nm_i_ownList hI (ownList_of ih hks (by omega)) fun v' I' S' w' => ?_
  rintro ⟨rfl, L, rfl, hT⟩ _ hI
  have hv : v'.cells = #[v'] ∧ v'.oneCell' = true := by obtain ⟨a, cap, rfl, _⟩ := hT; exact ⟨rfl, rfl⟩
  refine r_fieldSt hI 0 rfl fo_iTerm_3 sc_SiTerm rfl hv.1 hv.2 fun w' hI => ?_
  refine r_loadW hI 0 ag_iTerm rfl rfl ?_
  refine r_storeW hI 1 rfl ag_iTerm rfl rfl ?_ fun w' hI => ?_
  · intro u hu
    have hu' : u ∈ ([.int .i64 k, .int .i64 n, .string s, v'] : List Value) := hu
    simp at hu'
    rcases hu' with rfl | rfl | rfl | rfl <;> first | rfl | exact hv.2
  refine loadV_W hI 1 ag_iTerm rfl rfl ?_
  refine ⟨_, _, _, rfl, hI.sub (List.sublist_append_right [_, _] (blks L)), Ext.refl _ _ _, rfl, [.int .i64 k, .int .i64 n, .string s, v'], L, rfl, rfl, TrT.iff.2 ⟨v', rfl, h1, h2, hs, hT⟩⟩
theorem ownList_calls {ts : List T} {S : Store} {v : Value} (h : RdSl S 4 (RdT S) v ts) (hw : ts.length + wL ts ≤ 1048576) : Tri Try.prog n_i_ownList [v] [] S (PostS 4 TrT S ts) :=
  ownList_of (fun t _ => own_calls t) h hw
end

end Go.Proofs.Ytaaihodhhacapaa

/- impl.ownClause, impl.ownProgram. -/
namespace Go.Proofs.Ytaaihodhhacapaa
open Go Go.RowKit
section
variable {w : World} {K : Value → World → Prop}
attribute [local irreducible] Run
theorem r_buildClause {a b : Int} {s : ByteArray} {k v : Value} (hv : ∃ p n m, v = .slice p n m) (hk : K (.agg #[.int .i64 a, .int .i64 b, .string s, k, v]) w) : Run Try.prog (sBuild t_iClause [(0, .agg #[.int .i64 a, .int .i64 b, .string s, k]), (1, v)]) w K := by
  obtain ⟨p, n, m, rfl⟩ := hv
  refine Run.of (v := .agg #[.int .i64 a, .int .i64 b, .string s, k, .slice p n m]) (w' := w) ?_ hk
  unfold sBuild
  rw [Sem.run_bind, run_build w t_iClause _ #[.int .i64 a, .int .i64 b, .string s, k, .slice p n m] (by kernel_rfl), Result.andThen_ok]
  rfl
theorem r_buildHead {a b : Int} {s : ByteArray} {k : Value} (hk : K (.agg #[.int .i64 a, .int .i64 b, .string s, k, .slice none 0 0]) w) : Run Try.prog (sBuild t_iClause [(0, .agg #[.int .i64 a, .int .i64 b, .string s, k])]) w K := by
  refine Run.of (v := .agg #[.int .i64 a, .int .i64 b, .string s, k, .slice none 0 0]) (w' := w) ?_ hk
  unfold sBuild
  rw [Sem.run_bind, run_build w t_iClause _ #[.int .i64 a, .int .i64 b, .string s, k, .slice none 0 0] (by kernel_rfl), Result.andThen_ok]
  rfl
theorem r_buildTerm {a b : Int} {s : ByteArray} (hk : K (.agg #[.int .i64 a, .int .i64 b, .string s, .slice none 0 0]) w) : Run Try.prog (sBuild t_iTerm [(0, .int .i64 a), (1, .int .i64 b), (2, .string s)]) w K := by
  refine Run.of (v := .agg #[.int .i64 a, .int .i64 b, .string s, .slice none 0 0]) (w' := w) ?_ hk
  unfold sBuild
  rw [Sem.run_bind, run_build w t_iTerm _ #[.int .i64 a, .int .i64 b, .string s, .slice none 0 0] (by kernel_rfl), Result.andThen_ok]
  rfl
end
section
attribute [local irreducible] Run CondV GuardV LoadV
def occItems (B B2 B2' : Item) (M1 M2 : Heaplet) (d2 d5 d7 : Bool) : List Item := B :: (match d7 with | true => B2' | false => B2) :: ((match d2 with | true => blks M1 | false => []) ++ (match d5 with | true => blks M2 | false => []))
theorem ownClause_calls {c : C} {S : Store} {cs : List Value} (h : RdC S cs c) (hw : wC c ≤ 1048576) : Tri Try.prog n_i_ownClause [.agg cs.toArray] [] S (PostC S c) := by
  intro w hI
  obtain ⟨hd, ks, rfl, h1, h2⟩ := h
  have h1' := h1
  obtain ⟨kv, rfl, g1, g2, g3, g4⟩ := RdT.iff.1 h1
  unfold wC at hw
  refine calls_i_ownClause ?_
  unfold sh_i_ownClause
  refine r_box hI fun b1 w' hI => ?_
  refine r_alloc hI zo_iClause fun b2 w' hI => ?_
  have hI : Inv w [] [.blk b1 (.cells #[.int .i64 c.head.kind, .int .i64 c.head.n, .string c.head.name, kv, ks] t_iClause), .blk b2 (.cells #[.int .i64 0, .int .i64 0, .string ⟨#[]⟩, .slice none 0 0, .slice none 0 0] t_iClause)] S w' := hI
  refine ⟨fun D x9 x8 x7 x6 x5 x4 x3 w_ => (D 0 = true → x3 = .pointer (some ⟨b1, 0, none⟩)) ∧ (D 1 = true → x4 = .agg #[.int .i64 c.head.kind, .int .i64 c.head.n, .string c.head.name, kv]) ∧ (D 2 = true → True) ∧ (D 3 = true → x6 = .pointer (some ⟨b1, 4, none⟩)) ∧ (D 4 = true → x7 = ks) ∧ (D 5 = true → True) ∧ (D 6 = true → True) ∧ (D 7 = true → True) ∧ ∃ M1 M2 k1, (D 2 = true → x5 = .agg #[.int .i64 c.head.kind, .int .i64 c.head.n, .string c.head.name, k1] ∧ TrT M1 [.int .i64 c.head.kind, .int .i64 c.head.n, .string c.head.name, k1] c.head) ∧ (D 5 = true → TrSl 4 TrT M2 x8 c.body) ∧ (D 6 = true → x9 = .agg #[.int .i64 c.head.kind, .int .i64 c.head.n, .string c.head.name, k1, x8]) ∧ (D 5 = true → D 2 = true) ∧ (D 6 = true → D 5 = true) ∧ (D 7 = true → D 6 = true) ∧ Inv w [] (occItems (.blk b1 (.cells #[.int .i64 c.head.kind, .int .i64 c.head.n, .string c.head.name, kv, ks] t_iClause)) (.blk b2 (.cells #[.int .i64 0, .int .i64 0, .string ⟨#[]⟩, .slice none 0 0, .slice none 0 0] t_iClause)) (.blk b2 (.cells #[.int .i64 c.head.kind, .int .i64 c.head.n, .string c.head.name, k1, x8] t_iClause)) M1 M2 (D 2) (D 5) (D 7)) S w_, ⟨fun h => Bool.noConfusion h, fun h => Bool.noConfusion h, fun h => Bool.noConfusion h, fun h => Bool.noConfusion h, fun h => Bool.noConfusion h, fun h => Bool.noConfusion h, fun h => Bool.noConfusion h, fun h => Bool.noConfusion h, ⟨[], [], undef, fun h => Bool.noConfusion h, fun h => Bool.noConfusion h, fun h => Bool.noConfusion h, fun h => Bool.noConfusion h, fun h => Bool.noConfusion h, fun h => Bool.noConfusion h, hI.draw⟩⟩, ⟨?_, ?_, ?_, ?_, ?_, ?_, ?_, ?_, trivial⟩, ?_⟩
  · intro D hD_  x9 x8 x7 x6 x5 x4 x3 w_
    rintro ⟨h0_, h1_, h2_, h3_, h4_, h5_, h6_, h7_, ⟨M1, M2, k1, e2, e5, e6, k5, k6, k7, hI⟩⟩
    refine r_field fo_iClause_0 ?_
    exact ⟨fun _ => rfl, h1_, h2_, h3_, h4_, h5_, h6_, h7_, ⟨M1, M2, k1, e2, e5, e6, k5, k6, k7, hI⟩⟩
  · intro D hD_ d0_0 x9 x8 x7 x6 x5 x4 x3 w_
    rintro ⟨h0_, h1_, h2_, h3_, h4_, h5_, h6_, h7_, ⟨M1, M2, k1, e2, e5, e6, k5, k6, k7, hI⟩⟩
    obtain rfl := h0_ d0_0
    refine r_loadLA hI 0 [.int .i64 c.head.kind, .int .i64 c.head.n, .string c.head.name, kv] ag_iTerm rfl rfl sub4 ?_
    exact ⟨h0_, fun _ => rfl, h2_, h3_, h4_, h5_, h6_, h7_, ⟨M1, M2, k1, e2, e5, e6, k5, k6, k7, hI⟩⟩
  · intro D hD_ d1_0 x9 x8 x7 x6 x5 x4 x3 w_
    rintro ⟨h0_, h1_, h2_, h3_, h4_, h5_, h6_, h7_, ⟨M1, M2, k1, e2, e5, e6, k5, k6, k7, hI⟩⟩
    obtain rfl := h1_ d1_0
    have f5 : D 5 = false := Bool.eq_false_iff.2 fun h => by rw [k5 h] at hD_; cases hD_
    have f6 : D 6 = false := Bool.eq_false_iff.2 fun h => by rw [k6 h] at f5; cases f5
    have f7 : D 7 = false := Bool.eq_false_iff.2 fun h => by rw [k7 h] at f6; cases f6
    rw [hD_, f5, f7] at hI
    refine Run.call0 fn_i_own nm_i_own hI (own_calls c.head S _ h1' (by omega)) fun v' I' S w_ => ?_
    rintro ⟨rfl, cs1, M1, rfl, rfl, hT1⟩ _ hI
    obtain ⟨k1, rfl, _⟩ := TrT.iff.1 hT1
    have e2 : setD D 2 2 = true → Value.agg #[.int .i64 c.head.kind, .int .i64 c.head.n, .string c.head.name, k1] = Value.agg #[.int .i64 c.head.kind, .int .i64 c.head.n, .string c.head.name, k1] ∧ TrT M1 [.int .i64 c.head.kind, .int .i64 c.head.n, .string c.head.name, k1] c.head := fun _ => ⟨rfl, hT1⟩
    have e6 := fun (h : D 6 = true) => (absurd h (by rw [f6]; decide) : x9 = .agg #[.int .i64 c.head.kind, .int .i64 c.head.n, .string c.head.name, k1, x8])
    have k5 := fun (_ : setD D 2 5 = true) => (rfl : setD D 2 2 = true)
    have hI : Inv w [] (occItems (.blk b1 (.cells #[.int .i64 c.head.kind, .int .i64 c.head.n, .string c.head.name, kv, ks] t_iClause)) (.blk b2 (.cells #[.int .i64 0, .int .i64 0, .string ⟨#[]⟩, .slice none 0 0, .slice none 0 0] t_iClause)) (.blk b2 (.cells #[.int .i64 c.head.kind, .int .i64 c.head.n, .string c.head.name, k1, x8] t_iClause)) M1 M2 true (D 5) (D 7)) S w_ := by
      rw [f5, f7]
      simpa [occItems] using hI
    exact ⟨h0_, h1_, fun _ => by first | assumption | trivial, h3_, h4_, h5_, h6_, h7_, ⟨M1, M2, k1, e2, e5, e6, k5, k6, k7, hI⟩⟩
  · intro D hD_  x9 x8 x7 x6 x5 x4 x3 w_
    rintro ⟨h0_, h1_, h2_, h3_, h4_, h5_, h6_, h7_, ⟨M1, M2, k1, e2, e5, e6, k5, k6, k7, hI⟩⟩
    refine r_field fo_iClause_1 ?_
    exact ⟨h0_, h1_, h2_, fun _ => rfl, h4_, h5_, h6_, h7_, ⟨M1, M2, k1, e2, e5, e6, k5, k6, k7, hI⟩⟩
  · intro D hD_ d3_0 x9 x8 x7 x6 x5 x4 x3 w_
    rintro ⟨h0_, h1_, h2_, h3_, h4_, h5_, h6_, h7_, ⟨M1, M2, k1, e2, e5, e6, k5, k6, k7, hI⟩⟩
    obtain rfl := h3_ d3_0
    refine r_loadL hI 0 sc_SiTerm rfl rfl ?_
    exact ⟨h0_, h1_, h2_, h3_, fun _ => by first | assumption | trivial, h5_, h6_, h7_, ⟨M1, M2, k1, e2, e5, e6, k5, k6, k7, hI⟩⟩
  · intro D hD_ d4_0 d2_1 x9 x8 x7 x6 x5 x4 x3 w_
    rintro ⟨h0_, h1_, h2_, h3_, h4_, h5_, h6_, h7_, ⟨M1, M2, k1, e2, e5, e6, k5, k6, k7, hI⟩⟩
    have g4_ := h4_ d4_0
    have f6 : D 6 = false := Bool.eq_false_iff.2 fun h => by rw [k6 h] at hD_; cases hD_
    have f7 : D 7 = false := Bool.eq_false_iff.2 fun h => by rw [k7 h] at f6; cases f6
    rw [hD_, d2_1, f7] at hI
    refine Run.call0 fn_i_ownList nm_i_ownList hI (by rw [g4_]; exact ownList_calls h2 (by omega)) fun v' I' S w_ => ?_
    rintro ⟨rfl, M2, rfl, hT2⟩ _ hI
    have e5 := fun (_ : setD D 5 5 = true) => hT2
    have e6 := fun (h : D 6 = true) => (absurd h (by rw [f6]; decide) : x9 = .agg #[.int .i64 c.head.kind, .int .i64 c.head.n, .string c.head.name, k1, v'])
    have k6 := fun (_ : setD D 5 6 = true) => (rfl : setD D 5 5 = true)
    have k5 := fun (_ : setD D 5 5 = true) => d2_1
    have hI : Inv w [] (occItems (.blk b1 (.cells #[.int .i64 c.head.kind, .int .i64 c.head.n, .string c.head.name, kv, ks] t_iClause)) (.blk b2 (.cells #[.int .i64 0, .int .i64 0, .string ⟨#[]⟩, .slice none 0 0, .slice none 0 0] t_iClause)) (.blk b2 (.cells #[.int .i64 c.head.kind, .int .i64 c.head.n, .string c.head.name, k1, v'] t_iClause)) M1 M2 (D 2) true (D 7)) S w_ := by
      rw [d2_1, f7]
      simpa [occItems] using hI
    exact ⟨h0_, h1_, h2_, h3_, h4_, fun _ => by first | assumption | trivial, h6_, h7_, ⟨M1, M2, k1, e2, e5, e6, k5, k6, k7, hI⟩⟩
  · intro D hD_ d2_0 d5_1 x9 x8 x7 x6 x5 x4 x3 w_
    rintro ⟨h0_, h1_, h2_, h3_, h4_, h5_, h6_, h7_, ⟨M1, M2, k1, e2, e5, e6, k5, k6, k7, hI⟩⟩
    have g2_ := h2_ d2_0
    have g5_ := h5_ d5_1
    have q2 := (e2 d2_0).1
    subst q2
    refine r_buildClause (by obtain ⟨a8, cap8, hx8, _⟩ := e5 d5_1; exact ⟨_, _, _, hx8⟩) ?_
    have e6 : setD D 6 6 = true → Value.agg #[.int .i64 c.head.kind, .int .i64 c.head.n, .string c.head.name, k1, x8] = Value.agg #[.int .i64 c.head.kind, .int .i64 c.head.n, .string c.head.name, k1, x8] := fun _ => rfl
    have k7 := fun (_ : setD D 6 7 = true) => (rfl : setD D 6 6 = true)
    have k6 := fun (_ : setD D 6 6 = true) => d5_1
    exact ⟨h0_, h1_, h2_, h3_, h4_, h5_, fun _ => by first | assumption | trivial, h7_, ⟨M1, M2, k1, e2, e5, e6, k5, k6, k7, hI⟩⟩
  · intro D hD_ d6_0 d5_1 d0_2 d1_3 d2_4 d3_5 d4_6 d5_7 d6_8 x9 x8 x7 x6 x5 x4 x3 w_
    rintro ⟨h0_, h1_, h2_, h3_, h4_, h5_, h6_, h7_, ⟨M1, M2, k1, e2, e5, e6, k5, k6, k7, hI⟩⟩
    have g6_ := h6_ d6_0
    have q6 := e6 d6_0
    subst q6
    have q2 := (e2 d2_4).2
    have q5 := e5 d5_1
    rw [hD_, d2_4, d5_1] at hI
    refine r_storeW hI 1 rfl ag_iClause rfl rfl ?_ fun w_ hI => ?_
    · intro u hu
      have hu' : u ∈ ([.int .i64 c.head.kind, .int .i64 c.head.n, .string c.head.name, k1, x8] : List Value) := hu
      simp at hu'
      have o1 : k1.oneCell' = true := q2.one k1 (by simp)
      have o2 : x8.oneCell' = true := by obtain ⟨a, cap, rfl, _⟩ := q5; rfl
      rcases hu' with rfl | rfl | rfl | rfl | rfl <;> first | rfl | exact o1 | exact o2
    have k7 := fun (_ : setD D 7 7 = true) => d6_0
    have hI : Inv w [] (occItems (.blk b1 (.cells #[.int .i64 c.head.kind, .int .i64 c.head.n, .string c.head.name, kv, ks] t_iClause)) (.blk b2 (.cells #[.int .i64 0, .int .i64 0, .string ⟨#[]⟩, .slice none 0 0, .slice none 0 0] t_iClause)) (.blk b2 (.cells #[.int .i64 c.head.kind, .int .i64 c.head.n, .string c.head.name, k1, x8] t_iClause)) M1 M2 (D 2) (D 5) true) S w_ := by
      rw [d2_4, d5_1]
      exact hI
    exact ⟨h0_, h1_, h2_, h3_, h4_, h5_, h6_, fun _ => trivial, ⟨M1, M2, k1, e2, e5, e6, k5, k6, k7, hI⟩⟩
  intro D d7_ d6_ d5_ d4_ d3_ d2_ d1_ d0_ x9 x8 x7 x6 x5 x4 x3 w_
  rintro ⟨h0_, h1_, h2_, h3_, h4_, h5_, h6_, h7_, ⟨M1, M2, k1, e2, e5, e6, k5, k6, k7, hI⟩⟩
  have g6_ := h6_ d6_
  have g5_ := h5_ d5_
  have g4_ := h4_ d4_
  obtain rfl := h3_ d3_
  have g2_ := h2_ d2_
  obtain rfl := h1_ d1_
  obtain rfl := h0_ d0_
  clear h0_ h1_ h2_ h3_ h4_ h5_ h6_ h7_
  have q2 := (e2 d2_).2
  have q5 := e5 d5_
  rw [d2_, d5_, d7_] at hI
  refine loadV_W hI 1 ag_iClause rfl rfl ?_
  refine ⟨_, _, _, rfl, hI.sub (List.sublist_append_right [_, _] (blks M1 ++ blks M2)), Ext.refl _ _ _, rfl, _, M1 ++ M2, rfl, by rw [blks_append], _, x8, M1, M2, rfl, rfl, q2, q5⟩
end

end Go.Proofs.Ytaaihodhhacapaa

/- impl.ownProgram; spec's copies. -/
namespace Go.Proofs.Ytaaihodhhacapaa
open Go Go.RowKit
theorem RdC.one {S : Store} {cs : List Value} {c : C} (h : RdC S cs c) : ∀ u ∈ cs, u.oneCell' = true := by
  obtain ⟨hd, ks, rfl, h1, a, cap, rfl, _⟩ := h
  intro u hu
  rcases List.mem_append.1 hu with hu | hu
  · exact h1.one u hu
  · simp at hu; subst hu; rfl
section
attribute [local irreducible] Run CondV GuardV LoadV
/- a row's value is a slice -/
theorem Inv.rowSlice {w0 w : World} {X : List Nat} {L : List Item} {S : Store} {v : Value} {e : TypeId} {k n : Nat} {xs : List Value} (h : Inv w0 X L S w) (i : Nat) (hi : L[i]? = some (.row v e k n xs)) : ∃ a m c, v = .slice a m c := by
  have hm : w.ownsRow 0 e k v n xs := h.its (.row v e k n xs) (List.mem_of_getElem? hi)
  rcases hm.2 with ⟨rfl, _⟩ | ⟨g, cap, cur, rfl, _⟩
  · exact ⟨_, _, _, rfl⟩
  · exact ⟨_, _, _, rfl⟩
def cpItems (B1 B2 B3 B3' r r' : Item) (rest : List Item) (M : Heaplet) (B27 : Item) (d7 d8 d9 d11 : Bool) : List Item :=
  B1 :: B2 :: (match d11 with | true => B3' | false => B3) :: (match d9 with | true => r' | false => r) :: (rest ++ ((match d7 with | true => blks M | false => []) ++ (match d8 with | true => [B27] | false => [])))

theorem l1Copy_calls : ∀ (t : T) (S : Store) (cs : List Value), RdT S cs t → wT t ≤ 1048576 → Tri Try.prog n_s_l1Copy [.agg cs.toArray] [] S (PostT S t) := by
  refine T.ind fun k n s ks ih S cs h hw => ?_
  intro w hI
  obtain ⟨kv, rfl, h1, h2, hs, hks⟩ := RdT.iff.1 h
  simp only [T.name, T.kids, T.kind, T.n] at h1 h2 hs hks ⊢
  simp only [wT] at hw
  refine calls_s_l1Copy ?_
  unfold sh_s_l1Copy
  refine r_box hI fun b1 w' hI => ?_
  refine r_alloc hI zo_iTerm fun b2 w' hI => ?_
  refine r_fieldL hI 0 rfl fo_iTerm_0 sc_int rfl ?_
  refine r_fieldL hI 0 rfl fo_iTerm_1 sc_int rfl ?_
  refine r_fieldL hI 0 rfl fo_iTerm_2 sc_string rfl ?_
  refine r_buildTerm ?_
  refine r_alloc hI zo_iTerm fun b3 w' hI => ?_
  refine r_storeW hI 2 rfl ag_iTerm rfl rfl (by simp [Value.oneCell']) fun w' hI => ?_
  have hI := hI.rowNil t_iTerm 4
  refine ⟨fun i w' => ∃ (j : Nat) (kvc : Value) (Ls : List Heaplet) (css : List (List Value)), j ≤ ks.length ∧ i = .int .i64 j ∧ Grown 4 TrT Ls css (ks.take j) ∧
      Inv w [] (.blk b1 (.cells #[.int .i64 k, .int .i64 n, .string s, kv] t_iTerm) :: .blk b2 (.cells #[.int .i64 0, .int .i64 0, .string ⟨#[]⟩, .slice none 0 0] t_iTerm) :: .blk b3 (.cells #[.int .i64 k, .int .i64 n, .string s, kvc] t_iTerm) :: rowG kvc t_iTerm 4 css :: blks Ls.flatten) S w',
    fun i _ => ks.length - (intOf i).toNat, ⟨0, _, [], [], Nat.zero_le _, rfl, Grown.nil _ _, hI⟩, ?_⟩
  intro t4 _ _ _ _ _ _ _ _ _ _ _ _ _ _ _ _ _ _ w'
  rintro ⟨j, kvc, Ls, css, hj, rfl, hg, hI⟩
  refine r_fieldL hI 0 rfl fo_iTerm_3 sc_SiTerm rfl ?_
  refine r_lenSl hks sl_SiTerm ?_
  refine r_lss ?_
  refine condP (fun hji => ?_) (fun hji => ?_)
  · have hj' : j < ks.length := by omega
    have hjl : (ks.take j).length = j := by simp; omega
    have hcl := hg.hc
    have hm := List.getElem_mem hj'
    have hwm := wL_mem hm
    obtain ⟨b, o, cap, c, E, fz, rfl, hS, hR⟩ := hks.at_ hj'
    refine ⟨fun D x29 x28 x27 x26 x25 x24 x23 x22 x21 x20 x19 w_ => (D 0 = true → x19 = .pointer (some ⟨b3, 3, none⟩)) ∧ (D 1 = true → x20 = kvc) ∧ (D 2 = true → x21 = .pointer (some ⟨b1, 3, none⟩)) ∧ (D 3 = true → x22 = .slice (some ⟨b, o, none⟩) (ks).length cap) ∧ (D 4 = true → x23 = .int .i64 j) ∧ (D 5 = true → x24 = .pointer (some ⟨b, o + j * 4, none⟩)) ∧ (D 6 = true → x25 = .agg (cellsAt c (o + j * 4) 4).toArray) ∧ (D 7 = true → True) ∧ (D 8 = true → True) ∧ (D 9 = true → True) ∧ (D 10 = true → x29 = .pointer (some ⟨b3, 3, none⟩)) ∧ (D 11 = true → True) ∧ ∃ M cs7 b8, (D 7 = true → x26 = .agg cs7.toArray ∧ TrT M cs7 (ks)[j]) ∧ (D 8 = true → x27 = .slice (some ⟨b8, 0, none⟩) 1 1) ∧ (D 8 = true → D 7 = true) ∧ (D 9 = true → D 8 = true) ∧ (D 11 = true → D 9 = true) ∧ (D 11 = true → D 1 = true) ∧ Inv w [] (cpItems (.blk b1 (.cells #[.int .i64 k, .int .i64 n, .string s, .slice (some ⟨b, o, none⟩) ks.length cap] t_iTerm)) (.blk b2 (.cells #[.int .i64 0, .int .i64 0, .string ⟨#[]⟩, .slice none 0 0] t_iTerm)) (.blk b3 (.cells #[.int .i64 k, .int .i64 n, .string s, kvc] t_iTerm)) (.blk b3 (.cells #[.int .i64 k, .int .i64 n, .string s, x28] t_iTerm)) (rowG kvc t_iTerm 4 css) (rowG x28 t_iTerm 4 (css ++ [cs7])) (blks Ls.flatten) M (.blk b8 (.cells cs7.toArray t_iTerm)) (D 7) (D 8) (D 9) (D 11)) S w_, ⟨fun h => Bool.noConfusion h, fun h => Bool.noConfusion h, fun h => Bool.noConfusion h, fun h => Bool.noConfusion h, fun h => Bool.noConfusion h, fun h => Bool.noConfusion h, fun h => Bool.noConfusion h, fun h => Bool.noConfusion h, fun h => Bool.noConfusion h, fun h => Bool.noConfusion h, fun h => Bool.noConfusion h, fun h => Bool.noConfusion h, ⟨[], [], 0, fun h => Bool.noConfusion h, fun h => Bool.noConfusion h, fun h => Bool.noConfusion h, fun h => Bool.noConfusion h, fun h => Bool.noConfusion h, fun h => Bool.noConfusion h, by simpa [cpItems, blks] using hI.draw⟩⟩, ⟨?_, ?_, ?_, ?_, ?_, ?_, ?_, ?_, ?_, ?_, ?_, ?_, trivial⟩, ?_⟩
    · intro D hD_  x29 x28 x27 x26 x25 x24 x23 x22 x21 x20 x19 w_
      rintro ⟨h0_, h1_, h2_, h3_, h4_, h5_, h6_, h7_, h8_, h9_, h10_, h11_, ⟨M, cs7, b8, e7, e8, k8, k9, k11, k1, hI⟩⟩
      refine r_field fo_iTerm_3 ?_
      exact ⟨fun _ => rfl, h1_, h2_, h3_, h4_, h5_, h6_, h7_, h8_, h9_, h10_, h11_, ⟨M, cs7, b8, e7, e8, k8, k9, k11, k1, hI⟩⟩
    · intro D hD_ d0_0 x29 x28 x27 x26 x25 x24 x23 x22 x21 x20 x19 w_
      rintro ⟨h0_, h1_, h2_, h3_, h4_, h5_, h6_, h7_, h8_, h9_, h10_, h11_, ⟨M, cs7, b8, e7, e8, k8, k9, k11, k1, hI⟩⟩
      obtain rfl := h0_ d0_0
      have f11 : D 11 = false := Bool.eq_false_iff.2 fun h => by rw [k1 h] at hD_; cases hD_
      refine r_loadL (b := b3) hI 2 (c := (#[.int .i64 k, .int .i64 n, .string s, kvc])) sc_SiTerm (by rw [f11]; rfl) rfl ?_
      have k1 := fun (_ : setD D 1 11 = true) => (rfl : setD D 1 1 = true)
      exact ⟨h0_, fun _ => rfl, h2_, h3_, h4_, h5_, h6_, h7_, h8_, h9_, h10_, h11_, ⟨M, cs7, b8, e7, e8, k8, k9, k11, k1, hI⟩⟩
    · intro D hD_  x29 x28 x27 x26 x25 x24 x23 x22 x21 x20 x19 w_
      rintro ⟨h0_, h1_, h2_, h3_, h4_, h5_, h6_, h7_, h8_, h9_, h10_, h11_, ⟨M, cs7, b8, e7, e8, k8, k9, k11, k1, hI⟩⟩
      refine r_field fo_iTerm_3 ?_
      exact ⟨h0_, h1_, fun _ => rfl, h3_, h4_, h5_, h6_, h7_, h8_, h9_, h10_, h11_, ⟨M, cs7, b8, e7, e8, k8, k9, k11, k1, hI⟩⟩
    · intro D hD_ d2_0 x29 x28 x27 x26 x25 x24 x23 x22 x21 x20 x19 w_
      rintro ⟨h0_, h1_, h2_, h3_, h4_, h5_, h6_, h7_, h8_, h9_, h10_, h11_, ⟨M, cs7, b8, e7, e8, k8, k9, k11, k1, hI⟩⟩
      obtain rfl := h2_ d2_0
      refine r_loadL hI 0 sc_SiTerm rfl rfl ?_
      exact ⟨h0_, h1_, h2_, fun _ => rfl, h4_, h5_, h6_, h7_, h8_, h9_, h10_, h11_, ⟨M, cs7, b8, e7, e8, k8, k9, k11, k1, hI⟩⟩
    · intro D hD_  x29 x28 x27 x26 x25 x24 x23 x22 x21 x20 x19 w_
      rintro ⟨h0_, h1_, h2_, h3_, h4_, h5_, h6_, h7_, h8_, h9_, h10_, h11_, ⟨M, cs7, b8, e7, e8, k8, k9, k11, k1, hI⟩⟩
      exact ⟨h0_, h1_, h2_, h3_, fun _ => rfl, h5_, h6_, h7_, h8_, h9_, h10_, h11_, ⟨M, cs7, b8, e7, e8, k8, k9, k11, k1, hI⟩⟩
    · intro D hD_ d3_0 d4_1 x29 x28 x27 x26 x25 x24 x23 x22 x21 x20 x19 w_
      rintro ⟨h0_, h1_, h2_, h3_, h4_, h5_, h6_, h7_, h8_, h9_, h10_, h11_, ⟨M, cs7, b8, e7, e8, k8, k9, k11, k1, hI⟩⟩
      obtain rfl := h3_ d3_0
      obtain rfl := h4_ d4_1
      refine r_indexAddr sl_SiTerm hj' ?_
      exact ⟨h0_, h1_, h2_, h3_, h4_, fun _ => rfl, h6_, h7_, h8_, h9_, h10_, h11_, ⟨M, cs7, b8, e7, e8, k8, k9, k11, k1, hI⟩⟩
    · intro D hD_ d5_0 x29 x28 x27 x26 x25 x24 x23 x22 x21 x20 x19 w_
      rintro ⟨h0_, h1_, h2_, h3_, h4_, h5_, h6_, h7_, h8_, h9_, h10_, h11_, ⟨M, cs7, b8, e7, e8, k8, k9, k11, k1, hI⟩⟩
      obtain rfl := h5_ d5_0
      refine r_loadA ag_iTerm hR.length (fun j v hj => by rw [hI.cellS hS]; exact cellsAt_get rfl j v hj) ?_
      exact ⟨h0_, h1_, h2_, h3_, h4_, h5_, fun _ => rfl, h7_, h8_, h9_, h10_, h11_, ⟨M, cs7, b8, e7, e8, k8, k9, k11, k1, hI⟩⟩
    · intro D hD_ d6_0 x29 x28 x27 x26 x25 x24 x23 x22 x21 x20 x19 w_
      rintro ⟨h0_, h1_, h2_, h3_, h4_, h5_, h6_, h7_, h8_, h9_, h10_, h11_, ⟨M, cs7, b8, e7, e8, k8, k9, k11, k1, hI⟩⟩
      obtain rfl := h6_ d6_0
      have f8 : D 8 = false := Bool.eq_false_iff.2 fun h => by rw [k8 h] at hD_; cases hD_
      have f9 : D 9 = false := Bool.eq_false_iff.2 fun h => by rw [k9 h] at f8; cases f8
      have f11 : D 11 = false := Bool.eq_false_iff.2 fun h => by rw [k11 h] at f9; cases f9
      rw [hD_, f8, f9, f11] at hI
      refine Run.call0 fn_s_l1Copy nm_s_l1Copy hI (ih _ (List.getElem_mem hj') S _ hR (by omega)) fun v' I' S w_ => ?_
      rintro ⟨rfl, cs7, M, rfl, rfl, hT⟩ _ hI
      have e7 : setD D 7 7 = true → Value.agg cs7.toArray = Value.agg cs7.toArray ∧ TrT M cs7 (ks)[j] := fun _ => ⟨rfl, hT⟩
      have k8 := fun (_ : setD D 7 8 = true) => (rfl : setD D 7 7 = true)
      have hI : Inv w [] (cpItems (.blk b1 (.cells #[.int .i64 k, .int .i64 n, .string s, .slice (some ⟨b, o, none⟩) ks.length cap] t_iTerm)) (.blk b2 (.cells #[.int .i64 0, .int .i64 0, .string ⟨#[]⟩, .slice none 0 0] t_iTerm)) (.blk b3 (.cells #[.int .i64 k, .int .i64 n, .string s, kvc] t_iTerm)) (.blk b3 (.cells #[.int .i64 k, .int .i64 n, .string s, x28] t_iTerm)) (rowG kvc t_iTerm 4 css) (rowG x28 t_iTerm 4 (css ++ [cs7])) (blks Ls.flatten) M (.blk b8 (.cells cs7.toArray t_iTerm)) true (D 8) (D 9) (D 11)) S w_ := by
        rw [f8, f9, f11]
        simpa [cpItems] using hI
      exact ⟨h0_, h1_, h2_, h3_, h4_, h5_, h6_, fun _ => by first | assumption | trivial, h8_, h9_, h10_, h11_, ⟨M, cs7, b8, e7, e8, k8, k9, k11, k1, hI⟩⟩
    · intro D hD_ d7_0 x29 x28 x27 x26 x25 x24 x23 x22 x21 x20 x19 w_
      rintro ⟨h0_, h1_, h2_, h3_, h4_, h5_, h6_, h7_, h8_, h9_, h10_, h11_, ⟨M, cs7, b8, e7, e8, k8, k9, k11, k1, hI⟩⟩
      have g7_ := h7_ d7_0
      have f9 : D 9 = false := Bool.eq_false_iff.2 fun h => by rw [k9 h] at hD_; cases hD_
      have f11 : D 11 = false := Bool.eq_false_iff.2 fun h => by rw [k11 h] at f9; cases f9
      obtain ⟨q7, hT⟩ := e7 d7_0
      subst q7
      rw [d7_0, hD_, f9, f11] at hI
      refine r_slice1 hI mk_SiTerm (by simp [Value.cells, hT.length]) (by omega) (by omega) fun b8 w_ hI => ?_
      have e7 : setD D 8 7 = true → Value.agg cs7.toArray = Value.agg cs7.toArray ∧ TrT M cs7 (ks)[j] := fun _ => ⟨rfl, hT⟩
      have e8 := fun (_ : setD D 8 8 = true) => (rfl : Value.slice (some ⟨b8, 0, none⟩) 1 1 = _)
      have k8 := fun (_ : setD D 8 8 = true) => d7_0
      have k9 := fun (_ : setD D 8 9 = true) => (rfl : setD D 8 8 = true)
      have hI : Inv w [] (cpItems (.blk b1 (.cells #[.int .i64 k, .int .i64 n, .string s, .slice (some ⟨b, o, none⟩) ks.length cap] t_iTerm)) (.blk b2 (.cells #[.int .i64 0, .int .i64 0, .string ⟨#[]⟩, .slice none 0 0] t_iTerm)) (.blk b3 (.cells #[.int .i64 k, .int .i64 n, .string s, kvc] t_iTerm)) (.blk b3 (.cells #[.int .i64 k, .int .i64 n, .string s, x28] t_iTerm)) (rowG kvc t_iTerm 4 css) (rowG x28 t_iTerm 4 (css ++ [cs7])) (blks Ls.flatten) M (.blk b8 (.cells cs7.toArray t_iTerm)) (D 7) true (D 9) (D 11)) S w_ := by
        rw [d7_0, f9, f11]
        simpa [cpItems, Value.cells] using hI
      exact ⟨h0_, h1_, h2_, h3_, h4_, h5_, h6_, h7_, fun _ => by first | assumption | trivial, h9_, h10_, h11_, ⟨M, cs7, b8, e7, e8, k8, k9, k11, k1, hI⟩⟩
    · intro D hD_ d1_0 d8_1 d7_2 x29 x28 x27 x26 x25 x24 x23 x22 x21 x20 x19 w_
      rintro ⟨h0_, h1_, h2_, h3_, h4_, h5_, h6_, h7_, h8_, h9_, h10_, h11_, ⟨M, cs7, b8, e7, e8, k8, k9, k11, k1, hI⟩⟩
      obtain rfl := h1_ d1_0
      have g8_ := h8_ d8_1
      have f11 : D 11 = false := Bool.eq_false_iff.2 fun h => by rw [k11 h] at hD_; cases hD_
      have q8 := e8 d8_1
      subst q8
      obtain ⟨_, hT⟩ := e7 d7_2
      rw [d7_2, d8_1, hD_, f11] at hI
      have hblk : ((cpItems (.blk b1 (.cells #[.int .i64 k, .int .i64 n, .string s, .slice (some ⟨b, o, none⟩) ks.length cap] t_iTerm)) (.blk b2 (.cells #[.int .i64 0, .int .i64 0, .string ⟨#[]⟩, .slice none 0 0] t_iTerm)) (.blk b3 (.cells #[.int .i64 k, .int .i64 n, .string s, x20] t_iTerm)) (.blk b3 (.cells #[.int .i64 k, .int .i64 n, .string s, x28] t_iTerm)) (rowG x20 t_iTerm 4 css) (rowG x28 t_iTerm 4 (css ++ [cs7])) (blks Ls.flatten) M (.blk b8 (.cells cs7.toArray t_iTerm)) true true false false))[4 + (blks Ls.flatten).length + (blks M).length]? = some (.blk b8 (.cells cs7.toArray t_iTerm)) := by
        have e4 : 4 + (blks Ls.flatten).length + (blks M).length = ((blks Ls.flatten).length + (blks M).length) + 1 + 1 + 1 + 1 := by omega
        rw [e4]
        simp only [cpItems, List.getElem?_cons_succ]
        rw [List.getElem?_append_right (by omega), Nat.add_sub_cancel_left, List.getElem?_append_right (Nat.le_refl _), Nat.sub_self]; rfl
      refine r_append hI 3 cs7 mk_SiTerm (by omega) rfl (by rw [hT.length]) (m := 1) (o := 0) ?_ hT.one (by omega) (by omega) fun v' w_ hI => ?_
      · intro i u hi
        rw [hI.cellL hblk, Nat.zero_add]
        simpa using hi
      rw [rowG_snoc] at hI
      have k9 := fun (_ : setD D 9 9 = true) => d8_1
      have k11 := fun (_ : setD D 9 11 = true) => (rfl : setD D 9 9 = true)
      have hI : Inv w [] (cpItems (.blk b1 (.cells #[.int .i64 k, .int .i64 n, .string s, .slice (some ⟨b, o, none⟩) ks.length cap] t_iTerm)) (.blk b2 (.cells #[.int .i64 0, .int .i64 0, .string ⟨#[]⟩, .slice none 0 0] t_iTerm)) (.blk b3 (.cells #[.int .i64 k, .int .i64 n, .string s, x20] t_iTerm)) (.blk b3 (.cells #[.int .i64 k, .int .i64 n, .string s, v'] t_iTerm)) (rowG x20 t_iTerm 4 css) (rowG v' t_iTerm 4 (css ++ [cs7])) (blks Ls.flatten) M (.blk b8 (.cells cs7.toArray t_iTerm)) (D 7) (D 8) true (D 11)) S w_ := by
        rw [d7_2, d8_1, f11]
        exact hI
      exact ⟨h0_, h1_, h2_, h3_, h4_, h5_, h6_, h7_, h8_, fun _ => by first | assumption | trivial, h10_, h11_, ⟨M, cs7, b8, e7, e8, k8, k9, k11, k1, hI⟩⟩
    · intro D hD_ d0_0 d1_1 d2_2 d3_3 d4_4 d5_5 d6_6 d7_7 d8_8 d9_9 x29 x28 x27 x26 x25 x24 x23 x22 x21 x20 x19 w_
      rintro ⟨h0_, h1_, h2_, h3_, h4_, h5_, h6_, h7_, h8_, h9_, h10_, h11_, ⟨M, cs7, b8, e7, e8, k8, k9, k11, k1, hI⟩⟩
      refine r_field fo_iTerm_3 ?_
      exact ⟨h0_, h1_, h2_, h3_, h4_, h5_, h6_, h7_, h8_, h9_, fun _ => rfl, h11_, ⟨M, cs7, b8, e7, e8, k8, k9, k11, k1, hI⟩⟩
    · intro D hD_ d10_0 d9_1 d9_2 d0_3 d1_4 d2_5 d3_6 d4_7 d5_8 d6_9 d7_10 d8_11 d9_12 x29 x28 x27 x26 x25 x24 x23 x22 x21 x20 x19 w_
      rintro ⟨h0_, h1_, h2_, h3_, h4_, h5_, h6_, h7_, h8_, h9_, h10_, h11_, ⟨M, cs7, b8, e7, e8, k8, k9, k11, k1, hI⟩⟩
      obtain rfl := h10_ d10_0
      have g9_ := h9_ d9_1
      rw [d7_10, d8_11, d9_1, hD_] at hI
      obtain ⟨va, vn, vc, hv9⟩ := Inv.rowSlice hI 3 rfl
      refine r_store hI 2 (n := 1) (by rw [hv9]; rfl) (by decide +kernel) rfl (by simp) (by rw [hv9]; simp [Value.cells, Value.oneCell']) fun w_ hI => ?_
      have hcl9 : Value.cells x28 = #[x28] := by rw [hv9]; rfl
      rw [hcl9] at hI
      have k1 := fun (_ : setD D 11 11 = true) => d1_4
      have k11 := fun (_ : setD D 11 11 = true) => d9_1
      have hI : Inv w [] (cpItems (.blk b1 (.cells #[.int .i64 k, .int .i64 n, .string s, .slice (some ⟨b, o, none⟩) ks.length cap] t_iTerm)) (.blk b2 (.cells #[.int .i64 0, .int .i64 0, .string ⟨#[]⟩, .slice none 0 0] t_iTerm)) (.blk b3 (.cells #[.int .i64 k, .int .i64 n, .string s, kvc] t_iTerm)) (.blk b3 (.cells #[.int .i64 k, .int .i64 n, .string s, x28] t_iTerm)) (rowG kvc t_iTerm 4 css) (rowG x28 t_iTerm 4 (css ++ [cs7])) (blks Ls.flatten) M (.blk b8 (.cells cs7.toArray t_iTerm)) (D 7) (D 8) (D 9) true) S w_ := by
        rw [d7_10, d8_11, d9_1]
        exact hI
      exact ⟨h0_, h1_, h2_, h3_, h4_, h5_, h6_, h7_, h8_, h9_, h10_, fun _ => trivial, ⟨M, cs7, b8, e7, e8, k8, k9, k11, k1, hI⟩⟩
    intro D d11_ d10_ d9_ d8_ d7_ d6_ d5_ d4_ d3_ d2_ d1_ d0_ x29 x28 x27 x26 x25 x24 x23 x22 x21 x20 x19 w_
    rintro ⟨h0_, h1_, h2_, h3_, h4_, h5_, h6_, h7_, h8_, h9_, h10_, h11_, ⟨M, cs7, b8, e7, e8, k8, k9, k11, k1, hI⟩⟩
    obtain rfl := h10_ d10_
    have g9_ := h9_ d9_
    have g8_ := h8_ d8_
    have g7_ := h7_ d7_
    obtain rfl := h6_ d6_
    obtain rfl := h5_ d5_
    obtain rfl := h4_ d4_
    obtain rfl := h3_ d3_
    obtain rfl := h2_ d2_
    obtain rfl := h1_ d1_
    obtain rfl := h0_ d0_
    clear h0_ h1_ h2_ h3_ h4_ h5_ h6_ h7_ h8_ h9_ h10_ h11_
    obtain ⟨_, hT⟩ := e7 d7_
    rw [d7_, d8_, d9_, d11_] at hI
    refine r_add (by omega) ?_
    refine ⟨⟨j + 1, x28, Ls ++ [M], css ++ [cs7], hj', rfl, ?_, ?_⟩, by simp [intOf]; omega⟩
    · rw [List.take_succ_eq_append_getElem hj']
      exact hg.snoc hT hT.length
    · simp only [List.flatten_append, List.flatten_cons, List.flatten_nil, List.append_nil, blks_append]
      refine hI.sub ?_
      simp only [cpItems]
      rw [← List.append_assoc]
      exact (((List.sublist_append_left _ _).cons_cons _).cons_cons _).cons_cons _ |>.cons_cons _
  · have : j = ks.length := by omega
    subst this
    rw [List.take_length] at hg
    obtain ⟨va, vn, vc, hvk⟩ := hI.rowSlice 3 rfl
    have hv1 : kvc.oneCell' = true := by rw [hvk]; rfl
    refine r_loadW hI 2 ag_iTerm rfl rfl ?_
    refine r_storeW hI 1 rfl ag_iTerm rfl rfl ?_ fun w' hI => ?_
    · intro u hu
      have hu' : u ∈ ([.int .i64 k, .int .i64 n, .string s, kvc] : List Value) := hu
      simp at hu'
      rcases hu' with rfl | rfl | rfl | rfl <;> first | rfl | exact hv1
    refine loadV_W hI 1 ag_iTerm rfl rfl ?_
    have hI : Inv w [] ([] ++ (rowG kvc t_iTerm 4 css :: blks Ls.flatten)) S w' := hI.sub (List.sublist_append_right [_, _, _] _)
    obtain ⟨L, hT, hI⟩ := Inv.rowTree hI hg
    exact ⟨_, _, _, rfl, hI, Ext.refl _ _ _, rfl, _, L, rfl, rfl, TrT.iff.2 ⟨kvc, rfl, h1, h2, hs, hT⟩⟩
end

end Go.Proofs.Ytaaihodhhacapaa

/- spec.l4Copy, spec.l14Copy: clauses and programs copied. -/
namespace Go.Proofs.Ytaaihodhhacapaa
open Go Go.RowKit
section
attribute [local irreducible] Run CondV GuardV LoadV
theorem l4Copy_calls {c0 : C} {S : Store} {cs : List Value} (h : RdC S cs c0) (hw : wC c0 ≤ 1048576) : Tri Try.prog n_s_l4Copy [.agg cs.toArray] [] S (PostC S c0) := by
  intro w hI
  obtain ⟨hd, ks, rfl, h1, h2⟩ := h
  have h1' := h1
  obtain ⟨kv, rfl, g1, g2, g3, g4⟩ := RdT.iff.1 h1
  unfold wC at hw
  refine calls_s_l4Copy ?_
  unfold sh_s_l4Copy
  refine r_box hI fun b1 w' hI => ?_
  refine r_alloc hI zo_iClause fun b2 w' hI => ?_
  refine r_field fo_iClause_0 ?_
  refine r_loadLA hI 0 [.int .i64 c0.head.kind, .int .i64 c0.head.n, .string c0.head.name, kv] ag_iTerm rfl rfl sub4 ?_
  refine Run.call0 fn_s_l1Copy nm_s_l1Copy hI (l1Copy_calls _ S _ h1' (by omega)) fun v' I' S w' => ?_
  rintro ⟨rfl, cs1, N, rfl, rfl, hT1⟩ _ hI
  obtain ⟨kh, rfl, _⟩ := TrT.iff.1 hT1
  refine r_buildHead ?_
  refine r_alloc hI zo_iClause fun b3 w' hI => ?_
  have hI := hI.perm (M := .blk b1 _ :: .blk b2 _ :: .blk b3 _ :: blks N) (((List.perm_append_comm (l₁ := [_])).cons _).cons _)
  refine r_storeW hI 2 rfl ag_iClause rfl rfl ?_ fun w' hI => ?_
  · intro u hu
    have hu' : u ∈ ([.int .i64 c0.head.kind, .int .i64 c0.head.n, .string c0.head.name, kh, .slice none 0 0] : List Value) := hu
    simp at hu'
    have o1 : kh.oneCell' = true := hT1.one kh (by simp)
    rcases hu' with rfl | rfl | rfl | rfl | rfl <;> first | rfl | exact o1
  have hI := hI.rowNil t_iTerm 4
  have hI := hI.perm (M := .blk b1 (.cells #[.int .i64 c0.head.kind, .int .i64 c0.head.n, .string c0.head.name, kv, ks] t_iClause) :: .blk b2 (.cells #[.int .i64 0, .int .i64 0, .string ⟨#[]⟩, .slice none 0 0, .slice none 0 0] t_iClause) :: .blk b3 (.cells #[.int .i64 c0.head.kind, .int .i64 c0.head.n, .string c0.head.name, kh, .slice none 0 0] t_iClause) :: rowG (.slice none 0 0) t_iTerm 4 [] :: blks N) ((((List.perm_append_comm (l₁ := [_])).cons _).cons _).cons _)
  refine ⟨fun i w' => ∃ (j : Nat) (kvc : Value) (Ls : List Heaplet) (css : List (List Value)), j ≤ c0.body.length ∧ i = .int .i64 j ∧ Grown 4 TrT Ls css (c0.body.take j) ∧
      Inv w [] (.blk b1 (.cells #[.int .i64 c0.head.kind, .int .i64 c0.head.n, .string c0.head.name, kv, ks] t_iClause) :: .blk b2 (.cells #[.int .i64 0, .int .i64 0, .string ⟨#[]⟩, .slice none 0 0, .slice none 0 0] t_iClause) :: .blk b3 (.cells #[.int .i64 c0.head.kind, .int .i64 c0.head.n, .string c0.head.name, kh, kvc] t_iClause) :: rowG kvc t_iTerm 4 css :: blks (N :: Ls).flatten) S w',
    fun i _ => c0.body.length - (intOf i).toNat, ⟨0, _, [], [], Nat.zero_le _, rfl, Grown.nil _ _, by simp only [List.flatten_cons, List.flatten_nil, List.append_nil]; exact hI⟩, ?_⟩
  intro t4 _ _ _ _ _ _ _ _ _ _ _ _ _ _ _ _ _ _ w'
  rintro ⟨j, kvc, Ls, css, hj, rfl, hg, hI⟩
  refine r_fieldL hI 0 rfl fo_iClause_1 sc_SiTerm rfl ?_
  refine r_lenSl h2 sl_SiTerm ?_
  refine r_lss ?_
  refine condP (fun hji => ?_) (fun hji => ?_)
  · have hj' : j < c0.body.length := by omega
    have hjl : (c0.body.take j).length = j := by simp; omega
    have hcl := hg.hc
    have hm := List.getElem_mem hj'
    have hwm := wL_mem hm
    obtain ⟨b, o, cap, c, E, fz, rfl, hS, hR⟩ := h2.at_ hj'
    refine ⟨fun D x26 x25 x24 x23 x22 x21 x20 x19 x18 x17 x16 w_ => (D 0 = true → x16 = .pointer (some ⟨b3, 4, none⟩)) ∧ (D 1 = true → x17 = kvc) ∧ (D 2 = true → x18 = .pointer (some ⟨b1, 4, none⟩)) ∧ (D 3 = true → x19 = .slice (some ⟨b, o, none⟩) (c0.body).length cap) ∧ (D 4 = true → x20 = .int .i64 j) ∧ (D 5 = true → x21 = .pointer (some ⟨b, o + j * 4, none⟩)) ∧ (D 6 = true → x22 = .agg (cellsAt c (o + j * 4) 4).toArray) ∧ (D 7 = true → True) ∧ (D 8 = true → True) ∧ (D 9 = true → True) ∧ (D 10 = true → x26 = .pointer (some ⟨b3, 4, none⟩)) ∧ (D 11 = true → True) ∧ ∃ M cs7 b8, (D 7 = true → x23 = .agg cs7.toArray ∧ TrT M cs7 (c0.body)[j]) ∧ (D 8 = true → x24 = .slice (some ⟨b8, 0, none⟩) 1 1) ∧ (D 8 = true → D 7 = true) ∧ (D 9 = true → D 8 = true) ∧ (D 11 = true → D 9 = true) ∧ (D 11 = true → D 1 = true) ∧ Inv w [] (cpItems (.blk b1 (.cells #[.int .i64 c0.head.kind, .int .i64 c0.head.n, .string c0.head.name, kv, .slice (some ⟨b, o, none⟩) c0.body.length cap] t_iClause)) (.blk b2 (.cells #[.int .i64 0, .int .i64 0, .string ⟨#[]⟩, .slice none 0 0, .slice none 0 0] t_iClause)) (.blk b3 (.cells #[.int .i64 c0.head.kind, .int .i64 c0.head.n, .string c0.head.name, kh, kvc] t_iClause)) (.blk b3 (.cells #[.int .i64 c0.head.kind, .int .i64 c0.head.n, .string c0.head.name, kh, x25] t_iClause)) (rowG kvc t_iTerm 4 css) (rowG x25 t_iTerm 4 (css ++ [cs7])) (blks (N :: Ls).flatten) M (.blk b8 (.cells cs7.toArray t_iTerm)) (D 7) (D 8) (D 9) (D 11)) S w_, ⟨fun h => Bool.noConfusion h, fun h => Bool.noConfusion h, fun h => Bool.noConfusion h, fun h => Bool.noConfusion h, fun h => Bool.noConfusion h, fun h => Bool.noConfusion h, fun h => Bool.noConfusion h, fun h => Bool.noConfusion h, fun h => Bool.noConfusion h, fun h => Bool.noConfusion h, fun h => Bool.noConfusion h, fun h => Bool.noConfusion h, ⟨[], [], 0, fun h => Bool.noConfusion h, fun h => Bool.noConfusion h, fun h => Bool.noConfusion h, fun h => Bool.noConfusion h, fun h => Bool.noConfusion h, fun h => Bool.noConfusion h, by simpa [cpItems, blks] using hI.draw⟩⟩, ⟨?_, ?_, ?_, ?_, ?_, ?_, ?_, ?_, ?_, ?_, ?_, ?_, trivial⟩, ?_⟩
    · intro D hD_  x26 x25 x24 x23 x22 x21 x20 x19 x18 x17 x16 w_
      rintro ⟨h0_, h1_, h2_, h3_, h4_, h5_, h6_, h7_, h8_, h9_, h10_, h11_, ⟨M, cs7, b8, e7, e8, k8, k9, k11, k1, hI⟩⟩
      refine r_field fo_iClause_1 ?_
      exact ⟨fun _ => rfl, h1_, h2_, h3_, h4_, h5_, h6_, h7_, h8_, h9_, h10_, h11_, ⟨M, cs7, b8, e7, e8, k8, k9, k11, k1, hI⟩⟩
    · intro D hD_ d0_0 x26 x25 x24 x23 x22 x21 x20 x19 x18 x17 x16 w_
      rintro ⟨h0_, h1_, h2_, h3_, h4_, h5_, h6_, h7_, h8_, h9_, h10_, h11_, ⟨M, cs7, b8, e7, e8, k8, k9, k11, k1, hI⟩⟩
      obtain rfl := h0_ d0_0
      have f11 : D 11 = false := Bool.eq_false_iff.2 fun h => by rw [k1 h] at hD_; cases hD_
      refine r_loadL (b := b3) hI 2 (c := (#[.int .i64 c0.head.kind, .int .i64 c0.head.n, .string c0.head.name, kh, kvc])) sc_SiTerm (by rw [f11]; rfl) rfl ?_
      have k1 := fun (_ : setD D 1 11 = true) => (rfl : setD D 1 1 = true)
      exact ⟨h0_, fun _ => rfl, h2_, h3_, h4_, h5_, h6_, h7_, h8_, h9_, h10_, h11_, ⟨M, cs7, b8, e7, e8, k8, k9, k11, k1, hI⟩⟩
    · intro D hD_  x26 x25 x24 x23 x22 x21 x20 x19 x18 x17 x16 w_
      rintro ⟨h0_, h1_, h2_, h3_, h4_, h5_, h6_, h7_, h8_, h9_, h10_, h11_, ⟨M, cs7, b8, e7, e8, k8, k9, k11, k1, hI⟩⟩
      refine r_field fo_iClause_1 ?_
      exact ⟨h0_, h1_, fun _ => rfl, h3_, h4_, h5_, h6_, h7_, h8_, h9_, h10_, h11_, ⟨M, cs7, b8, e7, e8, k8, k9, k11, k1, hI⟩⟩
    · intro D hD_ d2_0 x26 x25 x24 x23 x22 x21 x20 x19 x18 x17 x16 w_
      rintro ⟨h0_, h1_, h2_, h3_, h4_, h5_, h6_, h7_, h8_, h9_, h10_, h11_, ⟨M, cs7, b8, e7, e8, k8, k9, k11, k1, hI⟩⟩
      obtain rfl := h2_ d2_0
      refine r_loadL hI 0 sc_SiTerm rfl rfl ?_
      exact ⟨h0_, h1_, h2_, fun _ => rfl, h4_, h5_, h6_, h7_, h8_, h9_, h10_, h11_, ⟨M, cs7, b8, e7, e8, k8, k9, k11, k1, hI⟩⟩
    · intro D hD_  x26 x25 x24 x23 x22 x21 x20 x19 x18 x17 x16 w_
      rintro ⟨h0_, h1_, h2_, h3_, h4_, h5_, h6_, h7_, h8_, h9_, h10_, h11_, ⟨M, cs7, b8, e7, e8, k8, k9, k11, k1, hI⟩⟩
      exact ⟨h0_, h1_, h2_, h3_, fun _ => rfl, h5_, h6_, h7_, h8_, h9_, h10_, h11_, ⟨M, cs7, b8, e7, e8, k8, k9, k11, k1, hI⟩⟩
    · intro D hD_ d3_0 d4_1 x26 x25 x24 x23 x22 x21 x20 x19 x18 x17 x16 w_
      rintro ⟨h0_, h1_, h2_, h3_, h4_, h5_, h6_, h7_, h8_, h9_, h10_, h11_, ⟨M, cs7, b8, e7, e8, k8, k9, k11, k1, hI⟩⟩
      obtain rfl := h3_ d3_0
      obtain rfl := h4_ d4_1
      refine r_indexAddr sl_SiTerm hj' ?_
      exact ⟨h0_, h1_, h2_, h3_, h4_, fun _ => rfl, h6_, h7_, h8_, h9_, h10_, h11_, ⟨M, cs7, b8, e7, e8, k8, k9, k11, k1, hI⟩⟩
    · intro D hD_ d5_0 x26 x25 x24 x23 x22 x21 x20 x19 x18 x17 x16 w_
      rintro ⟨h0_, h1_, h2_, h3_, h4_, h5_, h6_, h7_, h8_, h9_, h10_, h11_, ⟨M, cs7, b8, e7, e8, k8, k9, k11, k1, hI⟩⟩
      obtain rfl := h5_ d5_0
      refine r_loadA ag_iTerm hR.length (fun j v hj => by rw [hI.cellS hS]; exact cellsAt_get rfl j v hj) ?_
      exact ⟨h0_, h1_, h2_, h3_, h4_, h5_, fun _ => rfl, h7_, h8_, h9_, h10_, h11_, ⟨M, cs7, b8, e7, e8, k8, k9, k11, k1, hI⟩⟩
    · intro D hD_ d6_0 x26 x25 x24 x23 x22 x21 x20 x19 x18 x17 x16 w_
      rintro ⟨h0_, h1_, h2_, h3_, h4_, h5_, h6_, h7_, h8_, h9_, h10_, h11_, ⟨M, cs7, b8, e7, e8, k8, k9, k11, k1, hI⟩⟩
      obtain rfl := h6_ d6_0
      have f8 : D 8 = false := Bool.eq_false_iff.2 fun h => by rw [k8 h] at hD_; cases hD_
      have f9 : D 9 = false := Bool.eq_false_iff.2 fun h => by rw [k9 h] at f8; cases f8
      have f11 : D 11 = false := Bool.eq_false_iff.2 fun h => by rw [k11 h] at f9; cases f9
      rw [hD_, f8, f9, f11] at hI
      refine Run.call0 fn_s_l1Copy nm_s_l1Copy hI (l1Copy_calls _ S _ hR (by omega)) fun v' I' S w_ => ?_
      rintro ⟨rfl, cs7, M, rfl, rfl, hT⟩ _ hI
      have e7 : setD D 7 7 = true → Value.agg cs7.toArray = Value.agg cs7.toArray ∧ TrT M cs7 (c0.body)[j] := fun _ => ⟨rfl, hT⟩
      have k8 := fun (_ : setD D 7 8 = true) => (rfl : setD D 7 7 = true)
      have hI : Inv w [] (cpItems (.blk b1 (.cells #[.int .i64 c0.head.kind, .int .i64 c0.head.n, .string c0.head.name, kv, .slice (some ⟨b, o, none⟩) c0.body.length cap] t_iClause)) (.blk b2 (.cells #[.int .i64 0, .int .i64 0, .string ⟨#[]⟩, .slice none 0 0, .slice none 0 0] t_iClause)) (.blk b3 (.cells #[.int .i64 c0.head.kind, .int .i64 c0.head.n, .string c0.head.name, kh, kvc] t_iClause)) (.blk b3 (.cells #[.int .i64 c0.head.kind, .int .i64 c0.head.n, .string c0.head.name, kh, x25] t_iClause)) (rowG kvc t_iTerm 4 css) (rowG x25 t_iTerm 4 (css ++ [cs7])) (blks (N :: Ls).flatten) M (.blk b8 (.cells cs7.toArray t_iTerm)) true (D 8) (D 9) (D 11)) S w_ := by
        rw [f8, f9, f11]
        simpa [cpItems] using hI
      exact ⟨h0_, h1_, h2_, h3_, h4_, h5_, h6_, fun _ => by first | assumption | trivial, h8_, h9_, h10_, h11_, ⟨M, cs7, b8, e7, e8, k8, k9, k11, k1, hI⟩⟩
    · intro D hD_ d7_0 x26 x25 x24 x23 x22 x21 x20 x19 x18 x17 x16 w_
      rintro ⟨h0_, h1_, h2_, h3_, h4_, h5_, h6_, h7_, h8_, h9_, h10_, h11_, ⟨M, cs7, b8, e7, e8, k8, k9, k11, k1, hI⟩⟩
      have g7_ := h7_ d7_0
      have f9 : D 9 = false := Bool.eq_false_iff.2 fun h => by rw [k9 h] at hD_; cases hD_
      have f11 : D 11 = false := Bool.eq_false_iff.2 fun h => by rw [k11 h] at f9; cases f9
      obtain ⟨q7, hT⟩ := e7 d7_0
      subst q7
      rw [d7_0, hD_, f9, f11] at hI
      refine r_slice1 hI mk_SiTerm (by simp [Value.cells, hT.length]) (by omega) (by omega) fun b8 w_ hI => ?_
      have e7 : setD D 8 7 = true → Value.agg cs7.toArray = Value.agg cs7.toArray ∧ TrT M cs7 (c0.body)[j] := fun _ => ⟨rfl, hT⟩
      have e8 := fun (_ : setD D 8 8 = true) => (rfl : Value.slice (some ⟨b8, 0, none⟩) 1 1 = _)
      have k8 := fun (_ : setD D 8 8 = true) => d7_0
      have k9 := fun (_ : setD D 8 9 = true) => (rfl : setD D 8 8 = true)
      have hI : Inv w [] (cpItems (.blk b1 (.cells #[.int .i64 c0.head.kind, .int .i64 c0.head.n, .string c0.head.name, kv, .slice (some ⟨b, o, none⟩) c0.body.length cap] t_iClause)) (.blk b2 (.cells #[.int .i64 0, .int .i64 0, .string ⟨#[]⟩, .slice none 0 0, .slice none 0 0] t_iClause)) (.blk b3 (.cells #[.int .i64 c0.head.kind, .int .i64 c0.head.n, .string c0.head.name, kh, kvc] t_iClause)) (.blk b3 (.cells #[.int .i64 c0.head.kind, .int .i64 c0.head.n, .string c0.head.name, kh, x25] t_iClause)) (rowG kvc t_iTerm 4 css) (rowG x25 t_iTerm 4 (css ++ [cs7])) (blks (N :: Ls).flatten) M (.blk b8 (.cells cs7.toArray t_iTerm)) (D 7) true (D 9) (D 11)) S w_ := by
        rw [d7_0, f9, f11]
        simpa [cpItems, Value.cells] using hI
      exact ⟨h0_, h1_, h2_, h3_, h4_, h5_, h6_, h7_, fun _ => by first | assumption | trivial, h9_, h10_, h11_, ⟨M, cs7, b8, e7, e8, k8, k9, k11, k1, hI⟩⟩
    · intro D hD_ d1_0 d8_1 d7_2 x26 x25 x24 x23 x22 x21 x20 x19 x18 x17 x16 w_
      rintro ⟨h0_, h1_, h2_, h3_, h4_, h5_, h6_, h7_, h8_, h9_, h10_, h11_, ⟨M, cs7, b8, e7, e8, k8, k9, k11, k1, hI⟩⟩
      obtain rfl := h1_ d1_0
      have g8_ := h8_ d8_1
      have f11 : D 11 = false := Bool.eq_false_iff.2 fun h => by rw [k11 h] at hD_; cases hD_
      have q8 := e8 d8_1
      subst q8
      obtain ⟨_, hT⟩ := e7 d7_2
      rw [d7_2, d8_1, hD_, f11] at hI
      have hblk : ((cpItems (.blk b1 (.cells #[.int .i64 c0.head.kind, .int .i64 c0.head.n, .string c0.head.name, kv, .slice (some ⟨b, o, none⟩) c0.body.length cap] t_iClause)) (.blk b2 (.cells #[.int .i64 0, .int .i64 0, .string ⟨#[]⟩, .slice none 0 0, .slice none 0 0] t_iClause)) (.blk b3 (.cells #[.int .i64 c0.head.kind, .int .i64 c0.head.n, .string c0.head.name, kh, x17] t_iClause)) (.blk b3 (.cells #[.int .i64 c0.head.kind, .int .i64 c0.head.n, .string c0.head.name, kh, x25] t_iClause)) (rowG x17 t_iTerm 4 css) (rowG x25 t_iTerm 4 (css ++ [cs7])) (blks (N :: Ls).flatten) M (.blk b8 (.cells cs7.toArray t_iTerm)) true true false false))[4 + (blks (N :: Ls).flatten).length + (blks M).length]? = some (.blk b8 (.cells cs7.toArray t_iTerm)) := by
        have e4 : 4 + (blks (N :: Ls).flatten).length + (blks M).length = ((blks (N :: Ls).flatten).length + (blks M).length) + 1 + 1 + 1 + 1 := by omega
        rw [e4]
        simp only [cpItems, List.getElem?_cons_succ]
        rw [List.getElem?_append_right (by omega), Nat.add_sub_cancel_left, List.getElem?_append_right (Nat.le_refl _), Nat.sub_self]; rfl
      refine r_append hI 3 cs7 mk_SiTerm (by omega) rfl (by rw [hT.length]) (m := 1) (o := 0) ?_ hT.one (by omega) (by omega) fun v' w_ hI => ?_
      · intro i u hi
        rw [hI.cellL hblk, Nat.zero_add]
        simpa using hi
      rw [rowG_snoc] at hI
      have k9 := fun (_ : setD D 9 9 = true) => d8_1
      have k11 := fun (_ : setD D 9 11 = true) => (rfl : setD D 9 9 = true)
      have hI : Inv w [] (cpItems (.blk b1 (.cells #[.int .i64 c0.head.kind, .int .i64 c0.head.n, .string c0.head.name, kv, .slice (some ⟨b, o, none⟩) c0.body.length cap] t_iClause)) (.blk b2 (.cells #[.int .i64 0, .int .i64 0, .string ⟨#[]⟩, .slice none 0 0, .slice none 0 0] t_iClause)) (.blk b3 (.cells #[.int .i64 c0.head.kind, .int .i64 c0.head.n, .string c0.head.name, kh, x17] t_iClause)) (.blk b3 (.cells #[.int .i64 c0.head.kind, .int .i64 c0.head.n, .string c0.head.name, kh, v'] t_iClause)) (rowG x17 t_iTerm 4 css) (rowG v' t_iTerm 4 (css ++ [cs7])) (blks (N :: Ls).flatten) M (.blk b8 (.cells cs7.toArray t_iTerm)) (D 7) (D 8) true (D 11)) S w_ := by
        rw [d7_2, d8_1, f11]
        exact hI
      exact ⟨h0_, h1_, h2_, h3_, h4_, h5_, h6_, h7_, h8_, fun _ => by first | assumption | trivial, h10_, h11_, ⟨M, cs7, b8, e7, e8, k8, k9, k11, k1, hI⟩⟩
    · intro D hD_ d0_0 d1_1 d2_2 d3_3 d4_4 d5_5 d6_6 d7_7 d8_8 d9_9 x26 x25 x24 x23 x22 x21 x20 x19 x18 x17 x16 w_
      rintro ⟨h0_, h1_, h2_, h3_, h4_, h5_, h6_, h7_, h8_, h9_, h10_, h11_, ⟨M, cs7, b8, e7, e8, k8, k9, k11, k1, hI⟩⟩
      refine r_field fo_iClause_1 ?_
      exact ⟨h0_, h1_, h2_, h3_, h4_, h5_, h6_, h7_, h8_, h9_, fun _ => rfl, h11_, ⟨M, cs7, b8, e7, e8, k8, k9, k11, k1, hI⟩⟩
    · intro D hD_ d10_0 d9_1 d9_2 d0_3 d1_4 d2_5 d3_6 d4_7 d5_8 d6_9 d7_10 d8_11 d9_12 x26 x25 x24 x23 x22 x21 x20 x19 x18 x17 x16 w_
      rintro ⟨h0_, h1_, h2_, h3_, h4_, h5_, h6_, h7_, h8_, h9_, h10_, h11_, ⟨M, cs7, b8, e7, e8, k8, k9, k11, k1, hI⟩⟩
      obtain rfl := h10_ d10_0
      have g9_ := h9_ d9_1
      rw [d7_10, d8_11, d9_1, hD_] at hI
      obtain ⟨va, vn, vc, hv9⟩ := Inv.rowSlice hI 3 rfl
      refine r_store hI 2 (n := 1) (by rw [hv9]; rfl) (by decide +kernel) rfl (by simp) (by rw [hv9]; simp [Value.cells, Value.oneCell']) fun w_ hI => ?_
      have hcl9 : Value.cells x25 = #[x25] := by rw [hv9]; rfl
      rw [hcl9] at hI
      have k1 := fun (_ : setD D 11 11 = true) => d1_4
      have k11 := fun (_ : setD D 11 11 = true) => d9_1
      have hI : Inv w [] (cpItems (.blk b1 (.cells #[.int .i64 c0.head.kind, .int .i64 c0.head.n, .string c0.head.name, kv, .slice (some ⟨b, o, none⟩) c0.body.length cap] t_iClause)) (.blk b2 (.cells #[.int .i64 0, .int .i64 0, .string ⟨#[]⟩, .slice none 0 0, .slice none 0 0] t_iClause)) (.blk b3 (.cells #[.int .i64 c0.head.kind, .int .i64 c0.head.n, .string c0.head.name, kh, kvc] t_iClause)) (.blk b3 (.cells #[.int .i64 c0.head.kind, .int .i64 c0.head.n, .string c0.head.name, kh, x25] t_iClause)) (rowG kvc t_iTerm 4 css) (rowG x25 t_iTerm 4 (css ++ [cs7])) (blks (N :: Ls).flatten) M (.blk b8 (.cells cs7.toArray t_iTerm)) (D 7) (D 8) (D 9) true) S w_ := by
        rw [d7_10, d8_11, d9_1]
        exact hI
      exact ⟨h0_, h1_, h2_, h3_, h4_, h5_, h6_, h7_, h8_, h9_, h10_, fun _ => trivial, ⟨M, cs7, b8, e7, e8, k8, k9, k11, k1, hI⟩⟩
    intro D d11_ d10_ d9_ d8_ d7_ d6_ d5_ d4_ d3_ d2_ d1_ d0_ x26 x25 x24 x23 x22 x21 x20 x19 x18 x17 x16 w_
    rintro ⟨h0_, h1_, h2_, h3_, h4_, h5_, h6_, h7_, h8_, h9_, h10_, h11_, ⟨M, cs7, b8, e7, e8, k8, k9, k11, k1, hI⟩⟩
    obtain rfl := h10_ d10_
    have g9_ := h9_ d9_
    have g8_ := h8_ d8_
    have g7_ := h7_ d7_
    obtain rfl := h6_ d6_
    obtain rfl := h5_ d5_
    obtain rfl := h4_ d4_
    obtain rfl := h3_ d3_
    obtain rfl := h2_ d2_
    obtain rfl := h1_ d1_
    obtain rfl := h0_ d0_
    clear h0_ h1_ h2_ h3_ h4_ h5_ h6_ h7_ h8_ h9_ h10_ h11_
    obtain ⟨_, hT⟩ := e7 d7_
    rw [d7_, d8_, d9_, d11_] at hI
    refine r_add (by omega) ?_
    refine ⟨⟨j + 1, x25, Ls ++ [M], css ++ [cs7], hj', rfl, ?_, ?_⟩, by simp [intOf]; omega⟩
    · rw [List.take_succ_eq_append_getElem hj']
      exact hg.snoc hT hT.length
    · rw [← List.cons_append, List.flatten_append, blks_append]
      simp only [List.flatten_cons, List.flatten_nil, List.append_nil]
      refine hI.sub ?_
      simp only [cpItems, List.flatten_cons]
      rw [← List.append_assoc]
      exact (((List.sublist_append_left _ _).cons_cons _).cons_cons _).cons_cons _ |>.cons_cons _
  · have : j = c0.body.length := by omega
    subst this
    rw [List.take_length] at hg
    obtain ⟨va, vn, vc, hvk⟩ := hI.rowSlice 3 rfl
    have hv1 : kvc.oneCell' = true := by rw [hvk]; rfl
    have o1 : kh.oneCell' = true := hT1.one kh (by simp)
    refine r_loadW hI 2 ag_iClause rfl rfl ?_
    refine r_storeW hI 1 rfl ag_iClause rfl rfl ?_ fun w' hI => ?_
    · intro u hu
      have hu' : u ∈ ([.int .i64 c0.head.kind, .int .i64 c0.head.n, .string c0.head.name, kh, kvc] : List Value) := hu
      simp at hu'
      rcases hu' with rfl | rfl | rfl | rfl | rfl <;> first | rfl | exact o1 | exact hv1
    refine loadV_W hI 1 ag_iClause rfl rfl ?_
    have hI : Inv w [] (rowG kvc t_iTerm 4 css :: blks (N :: Ls).flatten) S w' := hI.sub (List.sublist_append_right [_, _, _] _)
    rw [List.flatten_cons, blks_append] at hI
    have hI := hI.perm (M := blks N ++ (rowG kvc t_iTerm 4 css :: blks Ls.flatten)) (List.perm_middle)
    obtain ⟨L, hT, hI⟩ := Inv.rowTree hI hg
    exact ⟨_, _, _, rfl, hI, Ext.refl _ _ _, rfl, _, N ++ L, rfl, by rw [blks_append], _, kvc, N, L, rfl, rfl, hT1, hT⟩
end

end Go.Proofs.Ytaaihodhhacapaa

/- append of a whole slice that is only read to a row of the function's own. -/
namespace Go.Proofs.Ytaaihodhhacapaa
open Go Go.RowKit
section
variable {P : Program} {w w0 : World} {X : List Nat} {L : List Item} {S : Store} {K : Value → World → Prop}
theorem r_append0 (h : Inv w0 X L S w) {T ty e : TypeId} {k by_ n cp : Nat} {z v : Value} {cs : List Bool} {xs : List Value} {a : Option Addr} (i : Nat)
    (hT : mkOf P T = some (e, k, by_, z)) (hi : L[i]? = some (.row v e k n xs)) (hk : K v w) :
    Run P (sBuiltin .append #[T, T] ty cs [v, .slice a 0 cp]) w K := by
  obtain ⟨hu, inf, hi', hz, hs, hb, hzs⟩ := mkOf_some hT
  have hown := h.its _ (List.mem_of_getElem? hi)
  simp only [Item.holds] at hown
  refine Run.of (v := v) (w' := w) ?_ hk
  rcases hown.2 with ⟨rfl, rfl⟩ | ⟨g, cap, cur, rfl, _, hg, hnc, hcm, hcs, ht⟩
  · cases a <;> simp [sBuiltin, builtin, Builtin.append_, run_underlying hu, sizeOf, typeInfo, hi', Builtin.lenOf, Builtin.firstCells, loadCells, loadCellsFrom]
  · cases a <;> simp [sBuiltin, builtin, Builtin.append_, run_underlying hu, sizeOf, typeInfo, hi', storeCells, hnc, Builtin.lenOf, Builtin.firstCells, loadCells, loadCellsFrom]
theorem r_appendSl {α : Type} {R : List Value → α → Prop} (h : Inv w0 X L S w) {T ty e : TypeId} {k by_ n : Nat} {z v u : Value} {cs : List Bool} {xs : List Value} {ys : List α} {f : α → List Value} (i : Nat)
    (hT : mkOf P T = some (e, k, by_, z)) (hk0 : 0 < k) (hi : L[i]? = some (.row v e k n xs)) (hr : RdSl S k R u ys) (hR : ∀ cs y, R cs y → cs = f y) (hf : ∀ y, (f y).length = k) (h1 : ∀ y, ∀ c ∈ f y, c.oneCell' = true)
    (hfit : n + ys.length ≤ 4294967296) (hby : by_ ≤ 32768)
    (hk : ∀ v' w', Inv w0 X (L.set i (.row v' e k (n + ys.length) (xs ++ ys.flatMap f))) S w' → K v' w') :
    Run P (sBuiltin .append #[T, T] ty cs [v, u]) w K := by
  obtain ⟨a, cap, rfl, hl, hc, hx⟩ := hr
  rcases hx with rfl | ⟨b, o, c, E, fz, rfl, hS, hel⟩
  · refine r_append0 h i hT hi (hk v w ?_)
    have : L.set i (.row v e k (n + ([] : List α).length) (xs ++ ([] : List α).flatMap f)) = L := by
      simp only [List.length_nil, Nat.add_zero, List.flatMap_nil, List.append_nil]
      obtain ⟨hlt, e'⟩ := List.getElem?_eq_some_iff.1 hi
      rw [← e', List.set_getElem_self]
    rw [this]
    exact h
  · refine r_append h i (ys.flatMap f) hT hk0 hi (flat_len f k hf ys) ?_ ?_ hfit hby hk
    · intro j v' hj
      have hj' : j < ys.length * k := by
        rw [← flat_len f k hf ys]
        exact (List.getElem?_eq_some_iff.1 hj).1
      have hq : j / k < ys.length := (Nat.div_lt_iff_lt_mul hk0).2 hj'
      have hcell := hR _ _ (hel (j / k) hq)
      have hflat := flat_at f k hf ys (j / k) hq
      rw [h.cellS hS]
      have e1 : (ys.flatMap f)[j]? = (f ys[j / k])[j % k]? := by
        rw [← hflat, List.getElem?_take, if_pos (Nat.mod_lt _ hk0), List.getElem?_drop]
        congr 1
        have := Nat.div_add_mod j k
        rw [Nat.mul_comm] at this
        omega
      rw [e1] at hj
      have := cellsAt_get hcell (j % k) v' hj
      rw [← this]
      congr 1
      have := Nat.div_add_mod j k
      rw [Nat.mul_comm] at this
      omega
    · intro c' hc'
      obtain ⟨y, _, hy⟩ := List.mem_flatMap.1 hc'
      exact h1 y c' hy
end

end Go.Proofs.Ytaaihodhhacapaa

/- Rows of clauses that are only read: grown, joined, copied. -/
namespace Go.Proofs.Ytaaihodhhacapaa
open Go Go.RowKit

structure Rows {α : Type} (k : Nat) (R : List Value → α → Prop) (css : List (List Value)) (ys : List α) : Prop where
  hc : css.length = ys.length
  hk : ∀ cs ∈ css, cs.length = k
  hR : ∀ i (h : i < ys.length) (h1 : i < css.length), R css[i] ys[i]
theorem Rows.nil {α : Type} (k : Nat) (R : List Value → α → Prop) : Rows k R [] ([] : List α) := ⟨rfl, by simp, fun i h => by simp at h⟩
theorem Rows.snoc {α : Type} {k : Nat} {R : List Value → α → Prop} {css : List (List Value)} {ys : List α} (h : Rows k R css ys) {cs : List Value} {y : α} (hR : R cs y) (hl : cs.length = k) : Rows k R (css ++ [cs]) (ys ++ [y]) := by
  refine ⟨by simp [h.hc], fun c hc => ?_, fun i h0 h2 => ?_⟩
  · rcases List.mem_append.1 hc with hc | hc
    · exact h.hk c hc
    · simp at hc; subst hc; exact hl
  · have e2 := h.hc
    by_cases hi : i < ys.length
    · rw [List.getElem_append_left (by omega), List.getElem_append_left hi]
      exact h.hR i hi (by omega)
    · have : i = ys.length := by simp at h0; omega
      subst this
      rw [List.getElem_append_right (by omega), List.getElem_append_right (by omega)]
      simp only [e2, Nat.sub_self, List.getElem_cons_zero]
      exact hR
theorem Rows.append {α : Type} {k : Nat} {R : List Value → α → Prop} {css css' : List (List Value)} {ys ys' : List α} (h : Rows k R css ys) (h' : Rows k R css' ys') : Rows k R (css ++ css') (ys ++ ys') := by
  have e := h.hc
  have e' := h'.hc
  refine ⟨by simp [e, e'], fun c hc => ?_, fun i h0 h2 => ?_⟩
  · rcases List.mem_append.1 hc with hc | hc
    · exact h.hk c hc
    · exact h'.hk c hc
  · by_cases hi : i < ys.length
    · rw [List.getElem_append_left (by omega), List.getElem_append_left hi]
      exact h.hR i hi (by omega)
    · have hi' : i - css.length < ys'.length := by simp at h0; omega
      rw [List.getElem_append_right (by omega), List.getElem_append_right (by omega)]
      have := h'.hR (i - css.length) hi' (by omega)
      simpa only [e] using this
theorem RowRd.rows {α : Type} {S : Store} {v : Value} {e : TypeId} {k : Nat} {R : List Value → α → Prop} {css : List (List Value)} {ys : List α} (hr : Rows k R css ys) (h : RowRd S v e k css.length css.flatten) : RdSl S k R v ys := by
  obtain ⟨hl, h⟩ := h
  have hcy := hr.hc
  rcases h with ⟨rfl, h0⟩ | ⟨g, cap, cur, rfl, hS, hnc, hcm, hcs, ht⟩
  · have : ys = [] := List.eq_nil_of_length_eq_zero (by omega)
    subst this
    exact ⟨none, 0, rfl, Nat.le_refl _, Nat.zero_le _, .inl rfl⟩
  · refine ⟨_, cap, by rw [hcy], by omega, hcm, .inr ⟨g, 0, cur, e, (0, 0), rfl, hS, fun i hi => ?_⟩⟩
    have := flatten_at k css i hr.hk (by omega)
    have hik : i * k + k ≤ css.length * k := by rw [← Nat.succ_mul]; exact Nat.mul_le_mul_right k (by omega)
    rw [← ht, List.drop_take, List.take_take, Nat.min_eq_left (by omega)] at this
    rw [cellsAt, Nat.zero_add, this]
    exact hr.hR i hi (by omega)
theorem flatten_one {css : List (List Value)} (h : ∀ cs ∈ css, ∀ u ∈ cs, u.oneCell' = true) : ∀ u ∈ css.flatten, u.oneCell' = true := by
  intro u hu
  obtain ⟨cs, hc, hu⟩ := List.mem_flatten.1 hu
  exact h cs hc u hu
theorem flatten_len {k : Nat} : ∀ {css : List (List Value)}, (∀ cs ∈ css, cs.length = k) → css.flatten.length = css.length * k
  | [], _ => by simp
  | c :: css, h => by
    have := flatten_len (css := css) fun cs hc => h cs (List.mem_cons_of_mem _ hc)
    rw [List.flatten_cons, List.length_append, h c (List.mem_cons_self ..), this, List.length_cons, Nat.succ_mul, Nat.add_comm]
section
variable {P : Program} {w w0 : World} {X : List Nat} {L : List Item} {S : Store} {K : Value → World → Prop}
attribute [local irreducible] Run CondV GuardV LoadV
/- append(row, other row...) -/
theorem r_appendRow (h : Inv w0 X L S w) {T ty e : TypeId} {k by_ : Nat} {z v u : Value} {cs : List Bool} {css css2 : List (List Value)} (i i2 : Nat)
    (hT : mkOf P T = some (e, k, by_, z)) (hk0 : 0 < k) (hi : L[i]? = some (rowG v e k css)) (hi2 : L[i2]? = some (rowG u e k css2)) (hk2 : ∀ cs ∈ css2, cs.length = k) (h1 : ∀ cs ∈ css2, ∀ u ∈ cs, u.oneCell' = true)
    (hfit : css.length + css2.length ≤ 4294967296) (hby : by_ ≤ 32768) (hk : ∀ v' w', Inv w0 X (L.set i (rowG v' e k (css ++ css2))) S w' → K v' w') :
    Run P (sBuiltin .append #[T, T] ty cs [v, u]) w K := by
  have hm : w.ownsRow 0 e k u css2.length css2.flatten := h.its _ (List.mem_of_getElem? hi2)
  rcases hm.2 with ⟨rfl, h0⟩ | ⟨g, cap, cur, rfl, _, hg, hnc, hcm, hcs, ht⟩
  · have : css2 = [] := List.eq_nil_of_length_eq_zero h0
    subst this
    refine r_append0 h i hT hi (hk v w ?_)
    have : L.set i (rowG v e k (css ++ [])) = L := by
      obtain ⟨hlt, e'⟩ := List.getElem?_eq_some_iff.1 hi
      rw [List.append_nil, ← e', List.set_getElem_self]
    rw [this]
    exact h
  · refine r_append h i css2.flatten hT hk0 hi (flatten_len hk2) (o := 0) ?_ (flatten_one h1) hfit hby fun v' w' hI => hk _ _ ?_
    · intro j u hj
      rw [Nat.zero_add]
      rw [← ht, List.getElem?_take] at hj
      split at hj
      · simpa [World.cell?, hg] using hj
      · cases hj
    · have e : Item.row v' e k (css.length + css2.length) (css.flatten ++ css2.flatten) = rowG v' e k (css ++ css2) := by simp [rowG]
      rw [← e]
      exact hI
end
abbrev PostCB (S : Store) (ys : List C) (b : Bool) : Value → List Item → Store → Prop := fun r I' S' => S' = S ∧ ∃ u L, r = .tuple #[u, .bool b] ∧ I' = blks L ∧ TrSl 5 TrC L u ys
theorem wP_filter (f : C → Bool) : ∀ p : List C, (p.filter f).length + wP (p.filter f) + ((p.filter fun c => !f c).length + wP (p.filter fun c => !f c)) = p.length + wP p
  | [] => rfl
  | c :: p => by
    have := wP_filter f p
    rw [List.filter_cons, List.filter_cons]
    cases f c <;> simp [wP] <;> omega
theorem wP_append : ∀ p q : List C, wP (p ++ q) = wP p + wP q
  | [], q => by simp [wP]
  | c :: p, q => by simp only [List.cons_append, wP, wP_append p q]; omega
theorem filter_snoc {α : Type} (f : α → Bool) (l : List α) (k : Nat) (h : k < l.length) (m : List α) : (if f l[k] = true then m ++ [l[k]] else m) ++ (l.drop (k + 1)).filter f = m ++ (l.drop k).filter f := by
  rw [List.drop_eq_getElem_cons h, List.filter_cons]
  split
  · rw [List.append_assoc]; rfl
  · rfl

end Go.Proofs.Ytaaihodhhacapaa

/- Steps that the laws' walks share: results that are trees. -/
namespace Go.Proofs.Ytaaihodhhacapaa
open Go Go.RowKit
section
variable {w w0 : World} {X : List Nat} {L A : List Item} {S : Store} {K : Value → World → Prop}
attribute [local irreducible] Run CondV GuardV LoadV
theorem Run.pubTree {f : FuncId} {fn : Func} {args : List Value} {ys : List C} {b : Bool} (hf : Try.prog.funcs[f]? = some fn) (hn : (fn.name == "runtime.NumGoroutine" || fn.body.isNone) = false) (hI : Inv w0 X L S w)
    (hc : Tri Try.prog f args [] S (PostCB S ys b)) (hk : ∀ u S' w', Sle S S' → RdSl S' 5 (RdC S') u ys → Inv w0 X L S' w' → K (.tuple #[u, .bool b]) w') : Run Try.prog (sCall (.func (.func f) #[] #[]) args) w K := by
  refine Run.call0 hf hn hI hc fun v' I' S' w' => ?_
  rintro ⟨rfl, u, M, rfl, rfl, hT⟩ _ hI
  obtain ⟨S1, hle, hins, hI, _⟩ := Inv.lendAll M hI
  exact hk _ _ _ hle (hT.rd hins fun _ _ _ hi h => h.rd hi) hI
theorem Run.eqTreeT {ys : List T} {u v : Value} {M : Heaplet} (hI : Inv w0 X (A ++ blks M) S w) (hT : TrSl 4 TrT M u ys) (h : RdSl S 4 (RdT S) v ys) (hk : ∀ w', Inv w0 X (A ++ blks M) S w' → K (.bool true) w') :
    Run Try.prog (sCall (.func (.func n_l_eqTermS) #[] #[]) [u, v]) w K := by
  obtain ⟨S1, hle, hins, hI, hb⟩ := Inv.lendAll M hI
  refine Run.callPure fn_l_eqTermS nm_l_eqTermS hI (eqTermS_calls (hT.rd hins fun _ _ _ hi h => h.rd hi) (h.monoT hle)) fun w' hI => ?_
  rw [(eqL_iff ys ys).2 rfl]
  exact hk _ (hb _ _ hI)
theorem Run.markTreeT {ys : List T} {u : Value} {M : Heaplet} {k : Int} (hI : Inv w0 X (A ++ blks M) S w) (hT : TrSl 4 TrT M u ys) (hk0 : 0 ≤ k) (hk1 : k + 3 * cntL ys ≤ 4611686018427387904)
    (hk : ∀ M' w', TrSl 4 TrT M' u (mkL ys k).1 → Inv w0 X (A ++ blks M') S w' → K (.int .i64 (k + 3 * cntL ys)) w') : Run Try.prog (sCall (.func (.func n_l_markTermS) #[] #[]) [u, .int .i64 k]) w K := by
  refine Run.call fn_l_markTermS nm_l_markTermS hI (markTermS_ok ys S M u k hT hk0 hk1) fun v' I' S' w' => ?_
  rintro ⟨rfl, rfl, M', rfl, hT'⟩ _ hI
  rw [mkL_end]
  exact hk _ _ hT' hI
theorem Run.heldTreeT {ys : List T} {u : Value} {M : Heaplet} {k : Int} (hI : Inv w0 X (A ++ blks M) S w) (hT : TrSl 4 TrT M u (mkL ys k).1) (hk0 : 0 ≤ k) (hk1 : k + 3 * cntL ys ≤ 4611686018427387904)
    (hk : ∀ w', Inv w0 X (A ++ blks M) S w' → K (.int .i64 (k + 3 * cntL ys)) w') : Run Try.prog (sCall (.func (.func n_l_heldTermS) #[] #[]) [u, .int .i64 k]) w K := by
  obtain ⟨S1, hle, hins, hI, hb⟩ := Inv.lendAll M hI
  refine Run.callPure fn_l_heldTermS nm_l_heldTermS hI (heldTermS_ok ys _ u k (hT.rd hins fun _ _ _ hi h => h.rd hi) hk0 hk1) fun w' hI => ?_
  rw [mkL_end]
  exact hk _ (hb _ _ hI)
end

end Go.Proofs.Ytaaihodhhacapaa
