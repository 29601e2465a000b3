/- The sizes of clauses and of programs, and what they bound. -/
import Derived.Test.YtnoieadimkgjcaaBridge
import Derived.Test.YtnoieadimkgjcaaSz
import Derived.Test.YtnoieadimkgjcaaEq
namespace Go.Proofs.Ytnoieadimkgjcaa
open Go Go.RowKit
attribute [local irreducible] Run CondV GuardV LoadV

def szC (c : C) (left : Int) : Int := if szT c.head left < 0 then -1 else if szTs c.body (szT c.head left) < 0 then -1 else szTs c.body (szT c.head left)
def szP : List C → Int → Int
  | [], left => left
  | c :: cs, left => if szC c left < 0 then -1 else szP cs (szC c left)
def szPs (p : List C) (left : Int) : Int := if left - p.length < 0 then -1 else szP p (left - p.length)

mutual
theorem sz_wT : ∀ (t : T) (left : Int), 0 ≤ left → 0 ≤ szT t left → szT t left + wT t ≤ left
  | .mk k n s ks, left, h, h2 => by
    simp only [szT] at h2 ⊢
    rw [wT]
    split at h2
    · omega
    · rename_i h3
      rw [if_neg h3]
      split at h2
      · omega
      · rename_i h4
        rw [if_neg h4]
        have := sz_wL ks _ (by omega) h2
        omega
theorem sz_wL : ∀ (ts : List T) (left : Int), 0 ≤ left → 0 ≤ szL ts left → szL ts left + wL ts ≤ left
  | [], left, h, h2 => by simp [szL, wL]
  | t :: ts, left, h, h2 => by
    simp only [szL] at h2 ⊢
    rw [wL]
    split at h2
    · omega
    · rename_i h3
      rw [if_neg h3]
      have h4 := sz_wT t left h (by omega)
      have h5 := sz_wL ts _ (by omega) h2
      omega
end
theorem szTs_le (ts : List T) (left : Int) (h : 0 ≤ left) : -1 ≤ szTs ts left ∧ szTs ts left ≤ left := by
  unfold szTs
  split
  · omega
  · have := szL_le ts (left - ts.length) (by omega)
    omega
theorem sz_wTs {ts : List T} {left : Int} (h2 : 0 ≤ szTs ts left) : szTs ts left + (ts.length + wL ts) ≤ left := by
  unfold szTs at h2 ⊢
  split at h2
  · omega
  · rename_i h3
    rw [if_neg h3]
    have := sz_wL ts _ (by omega) h2
    omega
theorem szC_le (c : C) (left : Int) (h : 0 ≤ left) : -1 ≤ szC c left ∧ szC c left ≤ left := by
  unfold szC
  have h1 := szT_le c.head left h
  split
  · omega
  · have h2 := szTs_le c.body (szT c.head left) (by omega)
    split <;> omega
theorem sz_wC {c : C} {left : Int} (h : 0 ≤ left) (h2 : 0 ≤ szC c left) : szC c left + wC c ≤ left := by
  unfold szC at h2 ⊢
  unfold wC
  have h1 := szT_le c.head left h
  split at h2
  · omega
  · rename_i h3
    rw [if_neg h3]
    split at h2
    · omega
    · rename_i h4
      rw [if_neg h4]
      have := sz_wT c.head left h (by omega)
      have := sz_wTs (ts := c.body) (left := szT c.head left) h2
      omega
theorem szP_le : ∀ (p : List C) (left : Int), 0 ≤ left → -1 ≤ szP p left ∧ szP p left ≤ left
  | [], left, h => by simp only [szP]; omega
  | c :: cs, left, h => by
    simp only [szP]
    have h1 := szC_le c left h
    split
    · omega
    · have := szP_le cs (szC c left) (by omega)
      omega
theorem sz_wP : ∀ (p : List C) (left : Int), 0 ≤ left → 0 ≤ szP p left → szP p left + wP p ≤ left
  | [], left, h, h2 => by simp [szP, wP]
  | c :: cs, left, h, h2 => by
    simp only [szP] at h2 ⊢
    rw [wP]
    split at h2
    · omega
    · rename_i h3
      rw [if_neg h3]
      have h4 := sz_wC (c := c) h (by omega)
      have h5 := sz_wP cs _ (by omega) h2
      omega
theorem szPs_le (p : List C) (left : Int) (h : 0 ≤ left) : -1 ≤ szPs p left ∧ szPs p left ≤ left := by
  unfold szPs
  split
  · omega
  · have := szP_le p (left - p.length) (by omega)
    omega
theorem sz_wPs {p : List C} {left : Int} (h2 : 0 ≤ szPs p left) : szPs p left + (p.length + wP p) ≤ left := by
  unfold szPs at h2 ⊢
  split at h2
  · omega
  · rename_i h3
    rw [if_neg h3]
    have := sz_wP p _ (by omega) h2
    omega

theorem szClause_calls {c : C} {S : Store} {cs : List Value} {left : Int} (h : RdC S cs c) (h0 : 0 ≤ left) (h1 : left ≤ 4611686018427387904) : Pure Try.prog n_l_szClause [.agg cs.toArray, .int .i64 left] S (.int .i64 (szC c left)) := by
  intro w hI
  obtain ⟨hd, ks, rfl, g1, g2⟩ := h
  have g1' := g1
  obtain ⟨kv, rfl, _⟩ := RdT.iff.1 g1
  have hb := szT_le c.head left h0
  refine calls_l_szClause ?_
  unfold sh_l_szClause
  refine r_box hI fun b1 w' hI => ?_
  refine r_field fo_lClause_0 ?_
  refine r_loadLA hI 0 [.int .i64 c.head.kind, .int .i64 c.head.n, .string c.head.name, kv] ag_lTerm rfl rfl sub4 ?_
  refine Run.callPure fn_l_szTerm nm_l_szTerm hI (szTerm_calls _ S _ left g1' h0 h1) fun w' hI => ?_
  refine r_lss ?_
  refine condP (fun hlt => done hI (by rw [szC, if_pos hlt])) (fun hlt => ?_)
  refine r_fieldL hI 0 rfl fo_lClause_1 sc_SlTerm rfl ?_
  refine Run.callPure fn_l_szTermS nm_l_szTermS hI (szTermS_calls g2 (by omega) (by omega)) fun w' hI => ?_
  refine r_lss ?_
  refine condP (fun hlt2 => done hI (by rw [szC, if_neg hlt, if_pos hlt2])) (fun hlt2 => done hI (by rw [szC, if_neg hlt, if_neg hlt2]))
theorem szClauseS_calls {p : List C} {S : Store} {v : Value} {left : Int} (h : RdSl S 5 (RdC S) v p) (h0 : 0 ≤ left) (h1 : left ≤ 4611686018427387904) : Pure Try.prog n_l_szClauseS [v, .int .i64 left] S (.int .i64 (szPs p left)) := by
  intro w hI
  have hlen : (p.length : Int) ≤ 9223372036854775807 := by have := h.le; simp only [maxLen] at this; omega
  refine calls_l_szClauseS ?_
  unfold sh_l_szClauseS
  refine r_lenSl h sl_SlClause ?_
  refine r_sub (by omega) ?_
  refine r_lss ?_
  refine condP (fun hlt => ?_) (fun hlt => ?_)
  · exact done hI (by rw [szPs, if_pos hlt])
  refine ⟨fun i l w' => ∃ (k : Nat) (l' : Int), k ≤ p.length ∧ i = .int .i64 k ∧ l = .int .i64 l' ∧ 0 ≤ l' ∧ l' ≤ left ∧ szP (p.drop k) l' = szP p (left - p.length) ∧ Inv w [] [] S w',
    fun i _ _ => p.length - (intOf i).toNat, ⟨0, _, Nat.zero_le _, rfl, rfl, by omega, by omega, rfl, hI⟩, ?_⟩
  intro t5 _ _ _ _ _ t1 _ _ _ _ _ _ _ _ _ _ w'
  rintro ⟨k, l', hk, rfl, rfl, hl0, hl1, hrel, hI⟩
  refine r_lenSl h sl_SlClause ?_
  refine r_lss ?_
  refine condP (fun hki => ?_) (fun hki => ?_)
  · have hk' : k < p.length := by omega
    refine r_elem hI h sl_SlClause ag_lClause hk' (fun _ _ => RdC.length) fun cs hcs => ?_
    have hb := szC_le p[k] l' hl0
    refine Run.callPure fn_l_szClause nm_l_szClause hI (szClause_calls hcs hl0 (by omega)) fun w' hI => ?_
    have hstep : szP (p.drop k) l' = if szC p[k] l' < 0 then -1 else szP (p.drop (k + 1)) (szC p[k] l') := by
      rw [List.drop_eq_getElem_cons hk', szP]
    refine r_lss ?_
    refine condP (fun hneg => ?_) (fun hneg => ?_)
    · exact done hI (by rw [szPs, if_neg hlt, ← hrel, hstep, if_pos hneg])
    · refine r_add (by omega) ?_
      refine ⟨⟨k + 1, _, hk', rfl, rfl, by omega, by omega, ?_, hI⟩, by simp [intOf]; omega⟩
      rw [← hrel, hstep, if_neg hneg]
  · have : k = p.length := by omega
    subst this
    exact done hI (by rw [szPs, if_neg hlt, ← hrel, List.drop_length, szP])

/- toClauseS, and what it made published -/
theorem Run.toClauseS {w w0 : World} {X : List Nat} {L : List Item} {S : Store} {K : Value → World → Prop} {p : List C} {v : Value} (hI : Inv w0 X L S w) (h : RdSl S 5 (RdC S) v p) (hw : p.length + wP p ≤ 1048576)
    (hk : ∀ v' S' w', Sle S S' → RdSl S' 5 (RdC S') v' p → Inv w0 X L S' w' → K v' w') : Run Try.prog (sCall (.func (.func n_l_toClauseS) #[] #[]) [v]) w K := by
  refine Run.call0 fn_l_toClauseS nm_l_toClauseS hI (toClauseS_calls h hw) fun v' I' S' w' => ?_
  rintro ⟨rfl, M, rfl, hT⟩ _ hI
  obtain ⟨S2, hI, hle, hins, _⟩ := Inv.publishAll M hI
  exact hk _ _ _ hle (hT.rd hins fun _ _ _ hi h => h.rd hi) hI
theorem Run.toClause {w w0 : World} {X : List Nat} {L : List Item} {S : Store} {K : Value → World → Prop} {c : C} {cs : List Value} (hI : Inv w0 X L S w) (h : RdC S cs c) (hw : wC c ≤ 1048576)
    (hk : ∀ cs' S' w', Sle S S' → RdC S' cs' c → Inv w0 X L S' w' → K (.agg cs'.toArray) w') : Run Try.prog (sCall (.func (.func n_l_toClause) #[] #[]) [.agg cs.toArray]) w K := by
  refine Run.call0 fn_l_toClause nm_l_toClause hI (toClause_calls h hw) fun v' I' S' w' => ?_
  rintro ⟨rfl, cs', M, rfl, rfl, hT⟩ _ hI
  obtain ⟨S2, hI, hle, hins, _⟩ := Inv.publishAll M hI
  exact hk _ _ _ hle (hT.rd hins) hI
theorem Run.toTerm {w w0 : World} {X : List Nat} {L : List Item} {S : Store} {K : Value → World → Prop} {t : T} {cs : List Value} (hI : Inv w0 X L S w) (h : RdT S cs t) (hw : wT t ≤ 1048576)
    (hk : ∀ cs' S' w', Sle S S' → RdT S' cs' t → Inv w0 X L S' w' → K (.agg cs'.toArray) w') : Run Try.prog (sCall (.func (.func n_l_toTerm) #[] #[]) [.agg cs.toArray]) w K := by
  refine Run.call0 fn_l_toTerm nm_l_toTerm hI (toTerm_calls _ S _ h hw) fun v' I' S' w' => ?_
  rintro ⟨rfl, cs', M, rfl, rfl, hT⟩ _ hI
  obtain ⟨S2, hI, hle, hins, _⟩ := Inv.publishAll M hI
  exact hk _ _ _ hle (hT.rd hins) hI
theorem Run.toTermS {w w0 : World} {X : List Nat} {L : List Item} {S : Store} {K : Value → World → Prop} {p : List T} {v : Value} (hI : Inv w0 X L S w) (h : RdSl S 4 (RdT S) v p) (hw : p.length + wL p ≤ 1048576)
    (hk : ∀ v' S' w', Sle S S' → RdSl S' 4 (RdT S') v' p → Inv w0 X L S' w' → K v' w') : Run Try.prog (sCall (.func (.func n_l_toTermS) #[] #[]) [v]) w K := by
  refine Run.call0 fn_l_toTermS nm_l_toTermS hI (toTermS_calls h hw) fun v' I' S' w' => ?_
  rintro ⟨rfl, M, rfl, hT⟩ _ hI
  obtain ⟨S2, hI, hle, hins, _⟩ := Inv.publishAll M hI
  exact hk _ _ _ hle (hT.rd hins fun _ _ _ hi h => h.rd hi) hI

end Go.Proofs.Ytnoieadimkgjcaa
